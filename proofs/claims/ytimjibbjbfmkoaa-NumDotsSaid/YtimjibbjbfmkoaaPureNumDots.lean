/- The plain law behind NumDots: Dot of num and of the reference answer alike for all lists (no condition). -/
import Derived.Test.YtimjibbjbfmkoaaPNumDotsx2
namespace Go.Proofs.Ytimjibbjbfmkoaa.Pure
open Go.RowKit Go.Proofs.Ytimjibbjbfmkoaa.PNumDots Go.Proofs.YtimjibbjbfmkoaaW.PrintWords Go.Proofs.YtimjibbjbfmkoaaW.PrintLast
set_option linter.unusedVariables false
set_option linter.unusedSimpArgs false

theorem wfb {n : Int} (h : (Lit.int .i64 n).wf = true) : -9223372036854775808 ≤ n ∧ n ≤ 9223372036854775807 := by
  simp only [Lit.wf, IntKind.min, IntKind.max, IntKind.signed, IntKind.bits, Bool.and_eq_true, decide_eq_true_eq, if_true] at h
  omega
theorem w64 {n : Int} (h0 : -9223372036854775808 ≤ n) (h1 : n ≤ 9223372036854775807) : wrap64 n = n := by unfold wrap64; omega
theorem wu64 (n : Int) : IntKind.u64.wrap n = n % 18446744073709551616 := by simp [IntKind.wrap, IntKind.bits, IntKind.signed]
theorem awake_ok : headlandlaw01_awake.f 12 = some true := by decide +kernel
theorem fits_cases (a : Int) : num_Fits.f a = some (decide (-1048576 ≤ a ∧ a ≤ 1048576)) := by
  unfold num_Fits.f
  by_cases h : a ≥ -1048576
  · rw [if_pos h]; congr 1; simp only [decide_eq_decide]; omega
  · rw [if_neg h]; congr 1; symm; simp only [decide_eq_false_iff_not]; omega
theorem coord_cases (a : Int) : headlandref01_Coord.f a = some (decide (-4294967296 ≤ a ∧ a ≤ 4294967296)) := by
  unfold headlandref01_Coord.f
  by_cases h : a ≥ -4294967296
  · rw [if_pos h]; congr 1; simp only [decide_eq_decide]; omega
  · rw [if_neg h]; congr 1; symm; simp only [decide_eq_false_iff_not]; omega
theorem dot_same (k : Nat) : ∀ (c x : List Int) (s n i : Int), num_Dot.l0 k c x s n i = headlandref01_Dot.l0 k c x s n i := by
  induction k with
  | zero => intros; rfl
  | succ k ih =>
    intro c x s n i
    simp only [num_Dot.l0, headlandref01_Dot.l0]
    rw [show headlandref01_Fits.f (rd c i) = num_Fits.f (rd c i) from rfl, fits_cases, coord_cases, ih]
    simp only [Option.bind_some, decide_eq_true_eq]
    repeat' split
    all_goals first | rfl | (exfalso; omega)
theorem dot_ends (c x : List Int) (hl : x.length = c.length) (hm : c.length ≤ 12) (d : Nat) : ∀ (k : Nat) (s i : Int), 0 ≤ i → i ≤ c.length → (c.length : Int) - i = d → d < k →
    ∃ r, num_Dot.l0 k c x s c.length i = some r := by
  induction d with
  | zero =>
    intro k s i h0 h1 hd hk
    obtain ⟨k, rfl⟩ : ∃ m, k = m + 1 := ⟨k - 1, by omega⟩
    simp only [num_Dot.l0]
    rw [if_neg (by omega)]
    exact ⟨_, rfl⟩
  | succ d ih =>
    intro k s i h0 h1 hd hk
    obtain ⟨k, rfl⟩ : ∃ m, k = m + 1 := ⟨k - 1, by omega⟩
    simp only [num_Dot.l0]
    rw [if_pos (by omega), if_pos h0, if_pos (by omega), fits_cases]
    simp only [Option.bind_some]
    rw [w64 (n := i + 1) (by omega) (by omega)]
    split
    · rw [if_pos (by omega)]
      split
      · exact ⟨_, rfl⟩
      · split
        · exact ⟨_, rfl⟩
        · exact ih k _ (i + 1) (by omega) (by omega) (by omega) (by omega)
    · exact ⟨_, rfl⟩
theorem NumDots : headlandlaw01_NumDots.Pure := by
  intro c x _ _ _ _ _ _
  have same : ∀ k, headlandref01_Dot.f k c x = num_Dot.f k c x := by
    intro k
    unfold headlandref01_Dot.f num_Dot.f
    rw [dot_same]
  have ends : ∃ r, num_Dot.f 14 c x = some r := by
    unfold num_Dot.f
    by_cases h1 : (c.length : Int) = (x.length : Int)
    · rw [if_pos h1]
      by_cases h2 : (c.length : Int) > 12
      · rw [if_pos h2]; exact ⟨_, rfl⟩
      · rw [if_neg h2]
        exact dot_ends c x (by omega) (by omega) c.length 14 0 0 (by omega) (by omega) (by omega) (by omega)
    · rw [if_neg h1]; exact ⟨_, rfl⟩
  obtain ⟨r, hr⟩ := ends
  refine ⟨14, ?_⟩
  unfold headlandlaw01_NumDots.f
  rw [same, hr, show headlandlaw01_awake.f 14 = some true from by decide +kernel]
  simp

end Go.Proofs.Ytimjibbjbfmkoaa.Pure
