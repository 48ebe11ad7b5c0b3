/- Plain laws of package lin: Valid, the examples, loops. No program in sight. -/
import Derived.Test.YtmafphfajgoojaaBs
namespace Go.Proofs.Ytmafphfajgoojaa.Lp
open Go.RowKit Go.Proofs.YtmafphfajgoojaaW.PrintWords Go.Proofs.YtmafphfajgoojaaW.PrintLast
set_option linter.unusedVariables false
set_option linter.unusedSimpArgs false
theorem wfb {n : Int} (h : (Lit.int .i64 n).wf = true) : -9223372036854775808 ≤ n ∧ n ≤ 9223372036854775807 := by
  simp only [Lit.wf, IntKind.min, IntKind.max, IntKind.signed, IntKind.bits, Bool.and_eq_true, decide_eq_true_eq, if_true] at h
  omega
theorem w64 {n : Int} (h0 : -9223372036854775808 ≤ n) (h1 : n ≤ 9223372036854775807) : wrap64 n = n := by unfold wrap64; omega
theorem awake60 : Bs.headlandlaw02_awake.f 60 = some true := by decide +kernel
theorem awake_ge (d : Nat) : Bs.headlandlaw02_awake.f (60 + d) = some true := by
  induction d with
  | zero => exact awake60
  | succ d ih => exact Bs.headlandlaw02_awake.mono _ _ ih
def fitB (a : Int) : Bool := decide (-1048576 ≤ a ∧ a ≤ 1048576)
theorem fitB_iff (a : Int) : fitB a = true ↔ -1048576 ≤ a ∧ a ≤ 1048576 := by simp [fitB]
def valB (l : List Int) (c : Int) : Bool := l.all fitB && decide (l.length ≤ 12) && fitB c
theorem valB_iff (l : List Int) (c : Int) : valB l c = true ↔ (∀ x ∈ l, -1048576 ≤ x ∧ x ≤ 1048576) ∧ l.length ≤ 12 ∧ -1048576 ≤ c ∧ c ≤ 1048576 := by
  simp [valB, fitB, and_assoc]
theorem rd_nat (l : List Int) (i : Nat) (h : i < l.length) : rd l (i : Int) = l[i] := by
  unfold rd
  simp [h]
theorem fits_ad (a : Int) : Ad.num_Fits.f a = some (fitB a) := by
  unfold Ad.num_Fits.f fitB
  by_cases h : a ≥ -1048576
  · rw [if_pos h]; congr 1; simp only [decide_eq_decide]; omega
  · rw [if_neg h]; congr 1; symm; simp only [decide_eq_false_iff_not]; omega
theorem fits_sc (a : Int) : Sc.num_Fits.f a = some (fitB a) := fits_ad a
theorem fits_bs (a : Int) : Bs.headlandref01_Fits.f a = some (fitB a) := fits_ad a
theorem valid_l0 (l : List Int) (c : Int) (hm : l.length ≤ maxLen) : ∀ (d k i : Nat), i ≤ l.length → l.length - i = d → d < k →
    Ad.lin_Valid.l0 k l (l.length : Int) (i : Int) l c = some ((l.drop i).all fitB && decide (l.length ≤ 12) && fitB c) := by
  have hM : maxLen = 9223372036854775807 := by decide
  intro d
  induction d with
  | zero =>
    intro k i h0 hd hk
    obtain ⟨k, rfl⟩ : ∃ m, k = m + 1 := ⟨k - 1, by omega⟩
    have : i = l.length := by omega
    subst this
    simp only [Ad.lin_Valid.l0, fits_ad, Option.bind_some]
    rw [if_neg (by omega)]
    by_cases h : l.length ≤ 12
    · rw [if_pos (by omega)]; simp [h]
    · rw [if_neg (by omega)]; simp [h]
  | succ d ih =>
    intro k i h0 hd hk
    obtain ⟨k, rfl⟩ : ∃ m, k = m + 1 := ⟨k - 1, by omega⟩
    have hlt : i < l.length := by omega
    simp only [Ad.lin_Valid.l0, fits_ad, Option.bind_some]
    rw [if_pos (by omega), if_pos (by omega), if_pos (by omega), rd_nat l i hlt, List.drop_eq_getElem_cons hlt, List.all_cons]
    by_cases hf : fitB l[i] = true
    · rw [if_pos hf, w64 (by omega) (by omega)]
      have := ih k (i + 1) (by omega) (by omega) (by omega)
      rw [Int.natCast_succ] at this
      rw [this, hf, Bool.true_and]
    · rw [if_neg hf]
      simp only [Bool.not_eq_true] at hf
      rw [hf, Bool.false_and, Bool.false_and, Bool.false_and]
theorem valid_ad {l : List Int} (c : Int) (hm : l.length ≤ maxLen) {k : Nat} (hk : l.length < k) : Ad.lin_Valid.f k l c = some (valB l c) := by
  unfold Ad.lin_Valid.f
  exact valid_l0 l c hm l.length k 0 (by omega) (by omega) hk
theorem sc_ad_l0 : ∀ (k : Nat) (x : List Int) (n i : Int) (y : List Int) (c : Int), Sc.lin_Valid.l0 k x n i y c = Ad.lin_Valid.l0 k x n i y c := by
  intro k
  induction k with
  | zero => intros; rfl
  | succ k ih => intro x n i y c; simp only [Sc.lin_Valid.l0, Ad.lin_Valid.l0, fits_sc, fits_ad, ih]
theorem bs_ad_l0 : ∀ (k : Nat) (x : List Int) (n i : Int) (y : List Int) (c : Int), Bs.headlandref02_Valid.l0 k x n i y c = Ad.lin_Valid.l0 k x n i y c := by
  intro k
  induction k with
  | zero => intros; rfl
  | succ k ih => intro x n i y c; simp only [Bs.headlandref02_Valid.l0, Ad.lin_Valid.l0, fits_bs, fits_ad, ih]
theorem valid_sc {l : List Int} (c : Int) (hm : l.length ≤ maxLen) {k : Nat} (hk : l.length < k) : Sc.lin_Valid.f k l c = some (valB l c) := by
  rw [← valid_ad c hm hk]; exact sc_ad_l0 _ _ _ _ _ _
theorem valid_bs {l : List Int} (c : Int) (hm : l.length ≤ maxLen) {k : Nat} (hk : l.length < k) : Bs.headlandref02_Valid.f k l c = some (valB l c) := by
  rw [← valid_ad c hm hk]; exact bs_ad_l0 _ _ _ _ _ _
theorem same_l0 (l : List Int) (a b : Int) (hm : l.length ≤ maxLen) : ∀ (d k i : Nat), i ≤ l.length → l.length - i = d → d < k →
    Bs.headlandref02_Same.l0 k (l.length : Int) (i : Int) l a l b = some true := by
  have hM : maxLen = 9223372036854775807 := by decide
  intro d
  induction d with
  | zero =>
    intro k i h0 hd hk
    obtain ⟨k, rfl⟩ : ∃ m, k = m + 1 := ⟨k - 1, by omega⟩
    simp only [Bs.headlandref02_Same.l0]
    rw [if_neg (by omega)]
  | succ d ih =>
    intro k i h0 hd hk
    obtain ⟨k, rfl⟩ : ∃ m, k = m + 1 := ⟨k - 1, by omega⟩
    simp only [Bs.headlandref02_Same.l0]
    rw [if_pos (by omega), if_pos (by omega), if_pos (by omega), if_pos (by omega), if_pos trivial, w64 (by omega) (by omega)]
    exact ih k (i + 1) (by omega) (by omega) (by omega)
theorem same_refl {l : List Int} (a : Int) (hm : l.length ≤ maxLen) {k : Nat} (hk : l.length + 1 < k) : Bs.headlandref02_Same.f k l a l a = some true := by
  obtain ⟨k, rfl⟩ : ∃ m, k = m + 1 := ⟨k - 1, by omega⟩
  unfold Bs.headlandref02_Same.f
  rw [if_pos rfl]
  simp only [Bs.headlandref02_Same.j0, bne_self_eq_false, Bool.false_eq_true, if_false]
  exact same_l0 l a a hm l.length k 0 (by omega) (by omega) (by omega)
end Go.Proofs.Ytmafphfajgoojaa.Lp
