/- The plain law behind LinMakes, and the walk in the form that the row asks for. -/
import Derived.Test.YtmafphfajgoojaaLpBase
import Derived.Test.YtmafphfajgoojaaMk
namespace Go.Proofs.Ytmafphfajgoojaa.Lp
open Go.RowKit Go.Proofs.YtmafphfajgoojaaW.PrintWords Go.Proofs.YtmafphfajgoojaaW.PrintLast
set_option linter.unusedVariables false
set_option linter.unusedSimpArgs false
theorem is_mk {l : List Int} (a e : Int) (hm : l.length ≤ maxLen) {k : Nat} (hk : l.length + 1 < k) : Mk.headlandlaw02_is.f k l a e l a e = some true := by
  unfold Mk.headlandlaw02_is.f
  rw [if_pos rfl, same_refl a hm hk]
  rfl
theorem zeros_val (n : Nat) (c : Int) (h : n ≤ 12) : valB (List.replicate n 0) c = fitB c := by
  simp [valB, h, fitB]
theorem const_mk (n i : Int) (k : Nat) (hk : 60 ≤ k) : ∃ r : List Int × Int × Int, Mk.lin_Const.f k n i = some r ∧ Mk.headlandref02_Const.f k n i = some r ∧ r.1.length ≤ 12 := by
  have hM : maxLen = 9223372036854775807 := by decide
  obtain ⟨k, rfl⟩ : ∃ m, k = m + 1 := ⟨k - 1, by omega⟩
  unfold Mk.lin_Const.f Mk.headlandref02_Const.f Mk.headlandref02_fit.f
  simp only [Mk.lin_Const.j0]
  by_cases h0 : n < 0
  · rw [if_pos h0, if_pos h0, if_pos trivial]
    exact ⟨_, rfl, rfl, by simp⟩
  · rw [if_neg h0, if_neg h0]
    by_cases h1 : n > 12
    · rw [if_pos h1, if_pos (show decide (n > 12) = true by simpa using h1)]
      exact ⟨_, rfl, rfl, by simp⟩
    · rw [if_neg h1, if_neg (show ¬ decide (n > 12) = true by simpa using h1), fits_sc, valid_bs i (by simp; omega) (by simp; omega), zeros_val _ i (by omega)]
      have e1 : 0 ≤ n := by omega
      have e2 : n.toNat ≤ 35184372088832 := by omega
      simp only [Option.bind_some, e1, e2, if_true]
      cases fitB i
      · exact ⟨_, rfl, rfl, by simp⟩
      · exact ⟨_, rfl, rfl, by simp; omega⟩
theorem var_mk (n i : Int) : ∃ r : List Int × Int × Int, Mk.lin_Var.f n i = some r ∧ Mk.headlandref02_Var.f n i = some r ∧ r.1.length ≤ 12 := by
  have he : Mk.headlandref02_Var.f n i = Mk.lin_Var.f n i := rfl
  rw [he]
  unfold Mk.lin_Var.f
  by_cases h0 : n < 0
  · rw [if_pos h0]; exact ⟨_, rfl, rfl, by simp⟩
  rw [if_neg h0]
  by_cases h1 : n > 12
  · rw [if_pos h1]; exact ⟨_, rfl, rfl, by simp⟩
  rw [if_neg h1]
  by_cases h2 : i < 0
  · rw [if_pos h2]; exact ⟨_, rfl, rfl, by simp⟩
  rw [if_neg h2]
  by_cases h3 : i ≥ n
  · rw [if_pos h3]; exact ⟨_, rfl, rfl, by simp⟩
  rw [if_neg h3, if_pos (by omega), if_pos (by omega)]
  simp only [Option.bind_some]
  rw [if_pos (by omega), if_pos (by simp; omega)]
  exact ⟨_, rfl, rfl, by simp; omega⟩
theorem LinMakes (l : List Int) (K n i : Int) (hm : l.length ≤ maxLen) : Mk.headlandlaw02_LinMakes.f (60 + l.length) l K n i = some true := by
  have hM : maxLen = 9223372036854775807 := by decide
  obtain ⟨c, hc1, hc2, hc3⟩ := const_mk n i (60 + l.length) (by omega)
  obtain ⟨v, hv1, hv2, hv3⟩ := var_mk n i
  unfold Mk.headlandlaw02_LinMakes.f
  rw [hc1, hc2, hv1, hv2, valid_sc K hm (by omega), valid_bs K hm (by omega), awake_ge]
  simp only [Option.bind_some]
  rw [is_mk c.2.1 c.2.2 (by omega) (by omega), is_mk v.2.1 v.2.2 (by omega) (by omega)]
  simp
theorem walkMakes (a0 : Option Addr) (len0 cap0 : Nat) (z0 : List Int) (b0 : Int) (n i : Int) (w : World)
    (w0 : (a0 = none ∧ len0 = 0 ∧ cap0 = 0 ∧ z0 = []) ∨ ∃ x, a0 = some x ∧ len0 ≤ cap0 ∧ cap0 ≤ maxLen ∧ z0.length = cap0 ∧ (∀ i, i < z0.length → w.cell? (x.add i) = some (.int .i64 (z0.getD i 0))) ∧ ∀ n ∈ z0, (Lit.int .i64 n).wf = true) (x0 : (Lit.int .i64 b0).wf = true)
    (x1 : (Lit.int .i64 n).wf = true) (x2 : (Lit.int .i64 i).wf = true) :
    Calls Try.prog 4 #[.agg #[.slice a0 len0 cap0, .int .i64 b0], .int .i64 n, .int .i64 i] w fun e w' => e = .returned (.bool true) ∧ Below w.heap.size w w' := by
  obtain ⟨l0, rfl, hr0, hm0, hw0, hc0⟩ := ReadsInt.ofRowC w0
  exact Mk.headlandlaw02_LinMakes.calls (60 + l0.length) a0 cap0 l0 b0 n i true w (Kd.C_of_reads (d := (0 : Int)) (h1 := fun _ => rfl) hr0) hc0 (LinMakes l0 b0 n i hm0)
end Go.Proofs.Ytmafphfajgoojaa.Lp
