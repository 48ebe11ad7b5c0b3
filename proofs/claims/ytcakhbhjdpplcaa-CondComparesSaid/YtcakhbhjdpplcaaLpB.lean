/- Plain laws of package cond: what the makers work out. No program in sight. -/
import Derived.Test.YtcakhbhjdpplcaaNr2
namespace Go.Proofs.Ytcakhbhjdpplcaa.Lp
open Go.RowKit Go.Proofs.Ytcakhbhjdpplcaa.Aa Go.Proofs.Ytcakhbhjdpplcaa.Man Go.Proofs.Ytcakhbhjdpplcaa.Nr Go.Proofs.YtcakhbhjdpplcaaW.PrintWords Go.Proofs.YtcakhbhjdpplcaaW.PrintLast
set_option linter.unusedVariables false
set_option linter.unusedSimpArgs false
set_option linter.unusedSectionVars false
theorem wfb {n : Int} (h : (Lit.int .i64 n).wf = true) : -9223372036854775808 ≤ n ∧ n ≤ 9223372036854775807 := by
  simp only [Lit.wf, IntKind.min, IntKind.max, IntKind.signed, IntKind.bits, Bool.and_eq_true, decide_eq_true_eq, if_true] at h
  omega
theorem w64 {n : Int} (h0 : -9223372036854775808 ≤ n) (h1 : n ≤ 9223372036854775807) : wrap64 n = n := by unfold wrap64; omega
theorem wu64 (n : Int) : IntKind.u64.wrap n = n % 18446744073709551616 := by simp [IntKind.wrap, IntKind.bits, IntKind.signed]
theorem rd_nat (l : List Int) (i : Nat) (h : i < l.length) : rd l (i : Int) = l[i] := by
  unfold rd
  simp [h]
def Fit (a : Int) : Prop := -1048576 ≤ a ∧ a ≤ 1048576
def fitB (a : Int) : Bool := decide (-1048576 ≤ a ∧ a ≤ 1048576)
def valB (l : List Int) (c : Int) : Bool := l.all fitB && decide (l.length ≤ 12) && fitB c
theorem valB_iff (l : List Int) (c : Int) : valB l c = true ↔ (∀ x ∈ l, -1048576 ≤ x ∧ x ≤ 1048576) ∧ l.length ≤ 12 ∧ -1048576 ≤ c ∧ c ≤ 1048576 := by
  simp [valB, fitB, and_assoc]
theorem fits_aa (a : Int) : num_Fits.f a = some (fitB a) := by
  unfold num_Fits.f fitB
  by_cases h : a ≥ -1048576
  · rw [if_pos h]; congr 1; simp only [decide_eq_decide]; omega
  · rw [if_neg h]; congr 1; symm; simp only [decide_eq_false_iff_not]; omega
theorem fits_ra (a : Int) : headlandref01_Fits.f a = some (fitB a) := fits_aa a
theorem valid_l0 (l : List Int) (c : Int) (hm : l.length ≤ maxLen) : ∀ (d k i : Nat), i ≤ l.length → l.length - i = d → d < k →
    lin_Valid.l0 k l (l.length : Int) (i : Int) l c = some ((l.drop i).all fitB && decide (l.length ≤ 12) && fitB c) := by
  have hM : maxLen = 9223372036854775807 := by decide
  intro d
  induction d with
  | zero =>
    intro k i h0 hd hk
    obtain ⟨k, rfl⟩ : ∃ m, k = m + 1 := ⟨k - 1, by omega⟩
    have : i = l.length := by omega
    subst this
    simp only [lin_Valid.l0, fits_aa, Option.bind_some]
    rw [if_neg (by omega)]
    by_cases h : l.length ≤ 12
    · rw [if_pos (by omega)]; simp [h]
    · rw [if_neg (by omega)]; simp [h]
  | succ d ih =>
    intro k i h0 hd hk
    obtain ⟨k, rfl⟩ : ∃ m, k = m + 1 := ⟨k - 1, by omega⟩
    have hlt : i < l.length := by omega
    simp only [lin_Valid.l0, fits_aa, Option.bind_some]
    rw [if_pos (by omega), if_pos (by omega), if_pos (by omega), rd_nat l i hlt, List.drop_eq_getElem_cons hlt, List.all_cons]
    by_cases hf : fitB l[i] = true
    · rw [if_pos hf, w64 (by omega) (by omega)]
      have := ih k (i + 1) (by omega) (by omega) (by omega)
      rw [Int.natCast_succ] at this
      rw [this, hf, Bool.true_and]
    · rw [if_neg hf]
      simp only [Bool.not_eq_true] at hf
      rw [hf, Bool.false_and, Bool.false_and, Bool.false_and]
theorem valid_aa {l : List Int} (c : Int) (hm : l.length ≤ maxLen) {k : Nat} (hk : l.length < k) : lin_Valid.f k l c = some (valB l c) := by
  unfold lin_Valid.f
  exact valid_l0 l c hm l.length k 0 (by omega) (by omega) hk
theorem ref_aa_l0 : ∀ (k : Nat) (x : List Int) (n i : Int) (y : List Int) (c : Int), headlandref02_Valid.l0 k x n i y c = lin_Valid.l0 k x n i y c := by
  intro k
  induction k with
  | zero => intros; rfl
  | succ k ih => intro x n i y c; simp only [headlandref02_Valid.l0, lin_Valid.l0, fits_ra, fits_aa, ih]
theorem valid_ra {l : List Int} (c : Int) (hm : l.length ≤ maxLen) {k : Nat} (hk : l.length < k) : headlandref02_Valid.f k l c = some (valB l c) := by
  rw [← valid_aa c hm hk]; exact ref_aa_l0 _ _ _ _ _ _
/-- A valid condition. -/
def condB (c m : Int) (l : List Int) (K : Int) : Bool := valB l K && ((decide (c = 0 ∨ c = 1) && decide (m = 0)) || (decide (c = 2) && decide (1 ≤ m ∧ m ≤ 512)))
theorem cvalid (c m K : Int) {l : List Int} (hm : l.length ≤ maxLen) {k : Nat} (hk : l.length + 1 < k) : cond_Valid.f k c m l K = some (condB c m l K) := by
  obtain ⟨k, rfl⟩ : ∃ m, k = m + 1 := ⟨k - 1, by omega⟩
  unfold cond_Valid.f condB
  simp only [cond_Valid.j0, valid_aa K hm (show l.length < k by omega), Option.bind_some]
  by_cases h0 : c = 0
  · subst h0; by_cases hm0 : m = 0 <;> cases valB l K <;> simp [hm0]
  · by_cases h1 : c = 1
    · subst h1; by_cases hm0 : m = 0 <;> cases valB l K <;> simp [hm0]
    · by_cases h2 : c = 2
      · subst h2; by_cases ha : m ≥ 1 <;> by_cases hb : m ≤ 512 <;> cases valB l K <;> simp [ha, hb]
      · simp [h0, h1, h2]
theorem rvalid (c m K : Int) {l : List Int} (hm : l.length ≤ maxLen) {k : Nat} (hk : l.length + 1 < k) : headlandref03_Valid.f k c m l K = some (condB c m l K) := by
  unfold headlandref03_Valid.f condB
  rw [valid_ra K hm (by omega)]
  simp only [Option.bind_some]
  by_cases h0 : c = 0
  · subst h0; by_cases hm0 : m = 0 <;> cases valB l K <;> simp [hm0]
  · by_cases h1 : c = 1
    · subst h1; by_cases hm0 : m = 0 <;> cases valB l K <;> simp [hm0]
    · by_cases h2 : c = 2
      · subst h2; by_cases ha : m ≥ 1 <;> by_cases hb : m ≤ 512 <;> cases valB l K <;> simp [ha, hb]
      · simp [h0, h1, h2]
end Go.Proofs.Ytcakhbhjdpplcaa.Lp
