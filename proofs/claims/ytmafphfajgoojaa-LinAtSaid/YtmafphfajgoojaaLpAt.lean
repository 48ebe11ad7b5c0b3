/- The plain law behind LinAt, and the walk in the form that the row asks for. -/
import Derived.Test.YtmafphfajgoojaaLpBase
import Derived.Test.YtmafphfajgoojaaAt
namespace Go.Proofs.Ytmafphfajgoojaa.Lp
open Go.RowKit Go.Proofs.YtmafphfajgoojaaW.PrintWords Go.Proofs.YtmafphfajgoojaaW.PrintLast
set_option linter.unusedVariables false
set_option linter.unusedSimpArgs false
def coordB (a : Int) : Bool := decide (-4294967296 ≤ a ∧ a ≤ 4294967296)
theorem coord_at (a : Int) : At.headlandref01_Coord.f a = some (coordB a) := by
  unfold At.headlandref01_Coord.f coordB
  by_cases h : a ≥ -4294967296
  · rw [if_pos h]; congr 1; simp only [decide_eq_decide]; omega
  · rw [if_neg h]; congr 1; symm; simp only [decide_eq_false_iff_not]; omega
theorem point_l0 (x : List Int) (hm : x.length ≤ maxLen) : ∀ (d k i : Nat), i ≤ x.length → x.length - i = d → d < k → At.headlandref02_Point.l0 k x (x.length : Int) (i : Int) = some ((x.drop i).all coordB) := by
  have hM : maxLen = 9223372036854775807 := by decide
  intro d
  induction d with
  | zero =>
    intro k i h0 hd hk
    obtain ⟨k, rfl⟩ : ∃ m, k = m + 1 := ⟨k - 1, by omega⟩
    have : i = x.length := by omega
    subst this
    simp only [At.headlandref02_Point.l0]
    rw [if_neg (by omega)]
    simp
  | succ d ih =>
    intro k i h0 hd hk
    obtain ⟨k, rfl⟩ : ∃ m, k = m + 1 := ⟨k - 1, by omega⟩
    have hlt : i < x.length := by omega
    simp only [At.headlandref02_Point.l0, coord_at, Option.bind_some]
    rw [if_pos (by omega), if_pos (by omega), if_pos (by omega), rd_nat x i hlt, List.drop_eq_getElem_cons hlt, List.all_cons]
    by_cases hf : coordB x[i] = true
    · rw [if_pos hf, w64 (by omega) (by omega)]
      have := ih k (i + 1) (by omega) (by omega) (by omega)
      rw [Int.natCast_succ] at this
      rw [this, hf, Bool.true_and]
    · rw [if_neg hf]
      simp only [Bool.not_eq_true] at hf
      rw [hf, Bool.false_and]
/-- Both loops, side by side: the program adds from 0 and puts the constant on at the end, the reference begins with it. -/
theorem dot_l0 (l x : List Int) (K : Int) (hl : x.length = l.length) (h12 : l.length ≤ 12) (hfit : ∀ n ∈ l, -1048576 ≤ n ∧ n ≤ 1048576) : ∀ (d k i : Nat) (acc : Int), i ≤ l.length → l.length - i = d → d < k →
    ((x.drop i).all coordB = true → ∃ s, Bs.num_Dot.l0 k l x acc (l.length : Int) (i : Int) = some (s, 0) ∧ At.headlandref02_Value.l0 k x (wrap64 (K + acc)) (l.length : Int) (i : Int) l K = some (wrap64 (K + s))) ∧
    ((x.drop i).all coordB = false → Bs.num_Dot.l0 k l x acc (l.length : Int) (i : Int) = some (0, 6)) := by
  intro d
  induction d with
  | zero =>
    intro k i acc h0 hd hk
    obtain ⟨k, rfl⟩ : ∃ m, k = m + 1 := ⟨k - 1, by omega⟩
    have : i = x.length := by omega
    subst this
    simp only [Bs.num_Dot.l0, At.headlandref02_Value.l0]
    rw [if_neg (by omega), if_neg (by omega)]
    exact ⟨fun _ => ⟨acc, rfl, rfl⟩, fun h => by simp at h⟩
  | succ d ih =>
    intro k i acc h0 hd hk
    obtain ⟨k, rfl⟩ : ∃ m, k = m + 1 := ⟨k - 1, by omega⟩
    have hlt : i < x.length := by omega
    have hlt2 : i < l.length := by omega
    have hff : fitB l[i] = true := (fitB_iff _).2 (hfit _ (List.getElem_mem hlt2))
    simp only [Bs.num_Dot.l0, At.headlandref02_Value.l0, fits_sc, Option.bind_some]
    rw [rd_nat x i hlt, rd_nat l i hlt2, if_pos hff, List.drop_eq_getElem_cons hlt, List.all_cons]
    simp only [show (i : Int) < (l.length : Int) from by omega, show (i : Int) < (x.length : Int) from by omega, show (0 : Int) ≤ (i : Int) from by omega, if_true]
    rw [w64 (n := (i : Int) + 1) (by omega) (by omega)]
    by_cases hf : coordB x[i] = true
    · have hc : -4294967296 ≤ x[i] ∧ x[i] ≤ 4294967296 := by simpa [coordB] using hf
      rw [if_neg (by omega), if_neg (by omega), hf, Bool.true_and]
      have := ih k (i + 1) (wrap64 (acc + wrap64 (l[i] * x[i]))) (by omega) (by omega) (by omega)
      rw [Int.natCast_succ] at this
      rw [show wrap64 (wrap64 (K + acc) + wrap64 (l[i] * x[i])) = wrap64 (K + wrap64 (acc + wrap64 (l[i] * x[i]))) from by
        generalize wrap64 (l[i] * x[i]) = p
        unfold wrap64
        omega]
      exact this
    · simp only [Bool.not_eq_true] at hf
      have hc : ¬ (-4294967296 ≤ x[i] ∧ x[i] ≤ 4294967296) := by simpa [coordB] using hf
      rw [hf, Bool.false_and]
      refine ⟨fun h => (by cases h), fun _ => ?_⟩
      by_cases h1 : x[i] < -4294967296
      · rw [if_pos h1]
      · rw [if_neg h1, if_pos (by omega)]
theorem LinAt (l : List Int) (K : Int) (x : List Int) (hm : l.length ≤ maxLen) (hmx : x.length ≤ maxLen) : At.headlandlaw02_LinAt.f (60 + l.length) l K x = some true := by
  have hM : maxLen = 9223372036854775807 := by decide
  unfold At.headlandlaw02_LinAt.f
  have hsame : ∃ r : Int × Int, Bs.lin_At.f (60 + l.length) l K x = some r ∧ At.headlandref02_At.f (60 + l.length) l K x = some r := by
    unfold Bs.lin_At.f At.headlandref02_At.f
    rw [valid_sc K hm (by omega), valid_bs K hm (by omega)]
    simp only [Option.bind_some]
    by_cases hv : valB l K = true
    · rw [if_pos hv, if_pos hv]
      obtain ⟨hfit, h12, hk1, hk2⟩ := (valB_iff l K).1 hv
      unfold Bs.num_Dot.f
      by_cases he : (l.length : Int) = (x.length : Int)
      · rw [if_pos he, if_pos he, if_neg (by omega)]
        have hp := point_l0 x hmx x.length (60 + l.length) 0 (by omega) (by omega) (by omega)
        have hd := dot_l0 l x K (by omega) h12 hfit l.length (60 + l.length) 0 0 (by omega) (by omega) (by omega)
        unfold At.headlandref02_Point.f At.headlandref02_Value.f
        simp only [List.drop_zero, Int.natCast_zero, Int.add_zero, Int.cast_ofNat_Int] at hp hd
        rw [hp]
        simp only [Option.bind_some]
        cases ha : x.all coordB with
        | true =>
          obtain ⟨s, h1, h2⟩ := hd.1 ha
          rw [w64 (n := K) (by omega) (by omega)] at h2
          rw [h1, h2]
          exact ⟨_, rfl, rfl⟩
        | false =>
          rw [hd.2 ha]
          exact ⟨_, rfl, rfl⟩
      · rw [if_neg he, if_neg he]
        exact ⟨_, rfl, rfl⟩
    · rw [if_neg hv, if_neg hv]
      exact ⟨_, rfl, rfl⟩
  obtain ⟨r, h1, h2⟩ := hsame
  rw [h1, h2, awake_ge]
  simp
theorem walkAt (a0 : Option Addr) (len0 cap0 : Nat) (z0 : List Int) (b0 : Int) (a1 : Option Addr) (len1 cap1 : Nat) (z1 : List Int) (w : World)
    (w0 : (a0 = none ∧ len0 = 0 ∧ cap0 = 0 ∧ z0 = []) ∨ ∃ x, a0 = some x ∧ len0 ≤ cap0 ∧ cap0 ≤ maxLen ∧ z0.length = cap0 ∧ (∀ i, i < z0.length → w.cell? (x.add i) = some (.int .i64 (z0.getD i 0))) ∧ ∀ n ∈ z0, (Lit.int .i64 n).wf = true) (x0 : (Lit.int .i64 b0).wf = true)
    (w1 : (a1 = none ∧ len1 = 0 ∧ cap1 = 0 ∧ z1 = []) ∨ ∃ x, a1 = some x ∧ len1 ≤ cap1 ∧ cap1 ≤ maxLen ∧ z1.length = cap1 ∧ (∀ i, i < z1.length → w.cell? (x.add i) = some (.int .i64 (z1.getD i 0))) ∧ ∀ n ∈ z1, (Lit.int .i64 n).wf = true) (y1 : len1 * 8 ≤ 140737488351232) :
    Calls Try.prog 3 #[.agg #[.slice a0 len0 cap0, .int .i64 b0], .slice a1 len1 cap1] w fun e w' => e = .returned (.bool true) ∧ Below w.heap.size w w' := by
  obtain ⟨l0, rfl, hr0, hm0, hw0, hc0⟩ := ReadsInt.ofRowC w0
  obtain ⟨l1, rfl, hr1, hm1, hw1, hc1⟩ := ReadsInt.ofRowC w1
  exact At.headlandlaw02_LinAt.calls (60 + l0.length) a0 cap0 l0 b0 a1 cap1 l1 true w (Kd.C_of_reads (d := (0 : Int)) (h1 := fun _ => rfl) hr0) hc0 (Kd.C_of_reads (d := (0 : Int)) (h1 := fun _ => rfl) hr1) hc1 (LinAt l0 b0 l1 hm0 hm1)
end Go.Proofs.Ytmafphfajgoojaa.Lp
