/- The plain law behind CondHolds, and the walk in the form that the row asks for. -/
import Derived.Test.YtcakhbhjdpplcaaLpC
import Derived.Test.YtcakhbhjdpplcaaHo2
namespace Go.Proofs.Ytcakhbhjdpplcaa.Lp
open Go.RowKit Go.Proofs.Ytcakhbhjdpplcaa.Aa Go.Proofs.Ytcakhbhjdpplcaa.Man Go.Proofs.Ytcakhbhjdpplcaa.Nr Go.Proofs.Ytcakhbhjdpplcaa.Ho Go.Proofs.YtcakhbhjdpplcaaW.PrintWords Go.Proofs.YtcakhbhjdpplcaaW.PrintLast
set_option linter.unusedVariables false
set_option linter.unusedSimpArgs false
def coordB (a : Int) : Bool := decide (-4294967296 ≤ a ∧ a ≤ 4294967296)
theorem coord_at (a : Int) : headlandref01_Coord.f a = some (coordB a) := by
  unfold headlandref01_Coord.f coordB
  by_cases h : a ≥ -4294967296
  · rw [if_pos h]; congr 1; simp only [decide_eq_decide]; omega
  · rw [if_neg h]; congr 1; symm; simp only [decide_eq_false_iff_not]; omega
theorem point_l0 (x : List Int) (hm : x.length ≤ maxLen) : ∀ (d k i : Nat), i ≤ x.length → x.length - i = d → d < k → headlandref02_Point.l0 k x (x.length : Int) (i : Int) = some ((x.drop i).all coordB) := by
  have hM : maxLen = 9223372036854775807 := by decide
  intro d
  induction d with
  | zero =>
    intro k i h0 hd hk
    obtain ⟨k, rfl⟩ : ∃ m, k = m + 1 := ⟨k - 1, by omega⟩
    have : i = x.length := by omega
    subst this
    simp only [headlandref02_Point.l0]
    rw [if_neg (by omega)]
    simp
  | succ d ih =>
    intro k i h0 hd hk
    obtain ⟨k, rfl⟩ : ∃ m, k = m + 1 := ⟨k - 1, by omega⟩
    have hlt : i < x.length := by omega
    simp only [headlandref02_Point.l0, coord_at, Option.bind_some]
    rw [if_pos (by omega), if_pos (by omega), if_pos (by omega), rd_nat x i hlt, List.drop_eq_getElem_cons hlt, List.all_cons]
    by_cases hf : coordB x[i] = true
    · rw [if_pos hf, w64 (by omega) (by omega)]
      have := ih k (i + 1) (by omega) (by omega) (by omega)
      rw [Int.natCast_succ] at this
      rw [this, hf, Bool.true_and]
    · rw [if_neg hf]
      simp only [Bool.not_eq_true] at hf
      rw [hf, Bool.false_and]
/-- Both loops, side by side: the program adds from 0 and puts the constant on at the end, the reference begins with it. -/
theorem dot_l0 (l x : List Int) (K : Int) (hl : x.length = l.length) (h12 : l.length ≤ 12) (hfit : ∀ n ∈ l, -1048576 ≤ n ∧ n ≤ 1048576) : ∀ (d k i : Nat) (acc : Int), i ≤ l.length → l.length - i = d → d < k →
    ((x.drop i).all coordB = true → ∃ s, num_Dot.l0 k l x acc (l.length : Int) (i : Int) = some (s, 0) ∧ headlandref02_Value.l0 k x (wrap64 (K + acc)) (l.length : Int) (i : Int) l K = some (wrap64 (K + s))) ∧
    ((x.drop i).all coordB = false → num_Dot.l0 k l x acc (l.length : Int) (i : Int) = some (0, 6)) := by
  intro d
  induction d with
  | zero =>
    intro k i acc h0 hd hk
    obtain ⟨k, rfl⟩ : ∃ m, k = m + 1 := ⟨k - 1, by omega⟩
    have : i = x.length := by omega
    subst this
    simp only [num_Dot.l0, headlandref02_Value.l0]
    rw [if_neg (by omega), if_neg (by omega)]
    exact ⟨fun _ => ⟨acc, rfl, rfl⟩, fun h => by simp at h⟩
  | succ d ih =>
    intro k i acc h0 hd hk
    obtain ⟨k, rfl⟩ : ∃ m, k = m + 1 := ⟨k - 1, by omega⟩
    have hlt : i < x.length := by omega
    have hlt2 : i < l.length := by omega
    have hff : fitB l[i] = true := by simpa [fitB] using hfit _ (List.getElem_mem hlt2)
    simp only [num_Dot.l0, headlandref02_Value.l0, fits_aa, Option.bind_some]
    rw [rd_nat x i hlt, rd_nat l i hlt2, if_pos hff, List.drop_eq_getElem_cons hlt, List.all_cons]
    simp only [show (i : Int) < (l.length : Int) from by omega, show (i : Int) < (x.length : Int) from by omega, show (0 : Int) ≤ (i : Int) from by omega, if_true]
    rw [w64 (n := (i : Int) + 1) (by omega) (by omega)]
    by_cases hf : coordB x[i] = true
    · have hc : -4294967296 ≤ x[i] ∧ x[i] ≤ 4294967296 := by simpa [coordB] using hf
      rw [if_neg (by omega), if_neg (by omega), hf, Bool.true_and]
      have := ih k (i + 1) (wrap64 (acc + wrap64 (l[i] * x[i]))) (by omega) (by omega) (by omega)
      rw [Int.natCast_succ] at this
      rw [show wrap64 (wrap64 (K + acc) + wrap64 (l[i] * x[i])) = wrap64 (K + wrap64 (acc + wrap64 (l[i] * x[i]))) from by
        generalize wrap64 (l[i] * x[i]) = p
        unfold wrap64
        omega]
      exact this
    · simp only [Bool.not_eq_true] at hf
      have hc : ¬ (-4294967296 ≤ x[i] ∧ x[i] ≤ 4294967296) := by simpa [coordB] using hf
      rw [hf, Bool.false_and]
      refine ⟨fun h => (by cases h), fun _ => ?_⟩
      by_cases h1 : x[i] < -4294967296
      · rw [if_pos h1]
      · rw [if_neg h1, if_pos (by omega)]
/-- The value at a point, on both sides. -/
theorem at_both (l : List Int) (K : Int) (x : List Int) (hv : valB l K = true) (k : Nat) (hk : 60 ≤ k) :
    (¬ (l.length : Int) = (x.length : Int) ∧ lin_At.f k l K x = some (0, 2)) ∨
    ((l.length : Int) = (x.length : Int) ∧ (∃ v, lin_At.f k l K x = some (v, 0) ∧ headlandref02_Point.f k x = some true ∧ headlandref02_Value.f k l K x = some v)) ∨
    ((l.length : Int) = (x.length : Int) ∧ lin_At.f k l K x = some (0, 6) ∧ headlandref02_Point.f k x = some false) := by
  have hM : maxLen = 9223372036854775807 := by decide
  obtain ⟨hfit, h12, hk1, hk2⟩ := (valB_iff l K).1 hv
  unfold lin_At.f num_Dot.f
  rw [valid_aa K (by omega) (by omega)]
  simp only [Option.bind_some, hv, if_true]
  by_cases he : (l.length : Int) = (x.length : Int)
  · refine .inr ?_
    rw [if_pos he, if_neg (by omega)]
    have hp := point_l0 x (by omega) x.length k 0 (by omega) (by omega) (by omega)
    have hd := dot_l0 l x K (by omega) h12 hfit l.length k 0 0 (by omega) (by omega) (by omega)
    simp only [List.drop_zero, Int.natCast_zero, Int.add_zero, Int.cast_ofNat_Int] at hp hd
    unfold headlandref02_Point.f headlandref02_Value.f
    rw [hp]
    cases ha : x.all coordB with
    | true =>
      obtain ⟨s, h1, h2⟩ := hd.1 ha
      rw [w64 (n := K) (by omega) (by omega)] at h2
      rw [h1]
      exact .inl ⟨he, _, rfl, rfl, h2⟩
    | false =>
      rw [hd.2 ha]
      exact .inr ⟨he, rfl, rfl⟩
  · rw [if_neg he]
    exact .inl ⟨he, rfl⟩
theorem holds_both (c M : Int) (l : List Int) (K : Int) (x : List Int) (hm : l.length ≤ maxLen) (k : Nat) (hk : 60 + l.length ≤ k) : ∃ r : Bool × Int, cond_Holds.f k c M l K x = some r ∧ headlandref03_Holds.f k c M l K x = some r := by
  unfold cond_Holds.f headlandref03_Holds.f
  rw [cvalid c M K hm (by omega), rvalid c M K hm (by omega)]
  simp only [Option.bind_some]
  by_cases hv : condB c M l K = true
  · rw [if_pos hv, if_pos hv]
    simp only [condB, Bool.and_eq_true, Bool.or_eq_true, decide_eq_true_eq] at hv
    obtain ⟨hv1, hv2⟩ := hv
    rcases at_both l K x hv1 k (by omega) with ⟨h1, h2⟩ | ⟨h1, v, h2, h3, h4⟩ | ⟨h1, h2, h3⟩
    · rw [h2, if_neg h1]
      exact ⟨_, rfl, rfl⟩
    · rw [h2, if_pos h1, h3]
      unfold headlandref03_Is.f
      rw [h4]
      simp only [Option.bind_some, if_true]
      by_cases c0 : c = 0
      · simp [c0]
      · by_cases c1 : c = 1
        · simp [c1]
        · have hM0 : ¬ M = 0 := by omega
          simp [c0, c1, hM0]
    · rw [h2, if_pos h1, h3]
      exact ⟨_, rfl, rfl⟩
  · rw [if_neg hv, if_neg hv]
    exact ⟨_, rfl, rfl⟩
theorem CondHolds (c M : Int) (l : List Int) (K : Int) (x : List Int) (hm : l.length ≤ maxLen) : headlandlaw03_CondHolds.f (80 + l.length) c M l K x = some true := by
  obtain ⟨r, h1, h2⟩ := holds_both c M l K x hm (80 + l.length) (by omega)
  unfold headlandlaw03_CondHolds.f
  rw [h1, h2, cvalid c M K hm (by omega), rvalid c M K hm (by omega), headlandlaw03_awake.ge]
  simp
theorem walkHolds (c0 m0 : Int) (a0 : Option Addr) (len0 cap0 : Nat) (z0 : List Int) (b0 : Int) (a1 : Option Addr) (len1 cap1 : Nat) (z1 : List Int) (w : World) (v0 : (Lit.int .i64 c0).wf = true) (u0 : (Lit.int .i64 m0).wf = true)
    (w0 : (a0 = none ∧ len0 = 0 ∧ cap0 = 0 ∧ z0 = []) ∨ ∃ x, a0 = some x ∧ len0 ≤ cap0 ∧ cap0 ≤ maxLen ∧ z0.length = cap0 ∧ (∀ i, i < z0.length → w.cell? (x.add i) = some (.int .i64 (z0.getD i 0))) ∧ ∀ n ∈ z0, (Lit.int .i64 n).wf = true) (x0 : (Lit.int .i64 b0).wf = true)
    (w1 : (a1 = none ∧ len1 = 0 ∧ cap1 = 0 ∧ z1 = []) ∨ ∃ x, a1 = some x ∧ len1 ≤ cap1 ∧ cap1 ≤ maxLen ∧ z1.length = cap1 ∧ (∀ i, i < z1.length → w.cell? (x.add i) = some (.int .i64 (z1.getD i 0))) ∧ ∀ n ∈ z1, (Lit.int .i64 n).wf = true) (y1 : len1 * 8 ≤ 140737488351232) :
    Calls Try.prog 4 #[.agg #[.int .i64 c0, .int .i64 m0, .slice a0 len0 cap0, .int .i64 b0], .slice a1 len1 cap1] w fun e w' => e = .returned (.bool true) ∧ Below w.heap.size w w' := by
  obtain ⟨l0, rfl, hr0, hm0, hw0, hc0⟩ := ReadsInt.ofRowC w0
  obtain ⟨l1, rfl, hr1, hm1, hw1, hc1⟩ := ReadsInt.ofRowC w1
  exact headlandlaw03_CondHolds.calls (80 + l0.length) c0 m0 a0 cap0 l0 b0 a1 cap1 l1 true w (Kd.C_of_reads (d := (0 : Int)) (h1 := fun _ => rfl) hr0) hc0 (Kd.C_of_reads (d := (0 : Int)) (h1 := fun _ => rfl) hr1) hc1 (CondHolds c0 m0 l0 b0 l1 hm0)
end Go.Proofs.Ytcakhbhjdpplcaa.Lp
