/- The plain law behind NumWraps: Wrap goes with sums, differences and products, and is congruent modulo 2^32 (no condition). -/
import Derived.Test.YtimjibbjbfmkoaaPNumWrapsx2
namespace Go.Proofs.Ytimjibbjbfmkoaa.Pure
open Go.RowKit Go.Proofs.Ytimjibbjbfmkoaa.PNumWraps Go.Proofs.YtimjibbjbfmkoaaW.PrintWords Go.Proofs.YtimjibbjbfmkoaaW.PrintLast
set_option linter.unusedVariables false
set_option linter.unusedSimpArgs false

theorem wfb {n : Int} (h : (Lit.int .i64 n).wf = true) : -9223372036854775808 ≤ n ∧ n ≤ 9223372036854775807 := by
  simp only [Lit.wf, IntKind.min, IntKind.max, IntKind.signed, IntKind.bits, Bool.and_eq_true, decide_eq_true_eq, if_true] at h
  omega
theorem w64 {n : Int} (h0 : -9223372036854775808 ≤ n) (h1 : n ≤ 9223372036854775807) : wrap64 n = n := by unfold wrap64; omega
theorem wu64 (n : Int) : IntKind.u64.wrap n = n % 18446744073709551616 := by simp [IntKind.wrap, IntKind.bits, IntKind.signed]
theorem awake_ok : headlandlaw01_awake.f 12 = some true := by decide +kernel
theorem wrap_eq (a : Int) : num_Wrap.f a = some (wrap32 a) := by
  unfold num_Wrap.f
  have h := bits_mask .u64 64 (by decide) (fun n h0 h1 => by rw [wu64]; omega) 32 (by decide) (a % 18446744073709551616) (by omega) (by omega)
  rw [wu64, show (4294967295 : Int) = 2 ^ 32 - 1 from rfl, h]
  unfold wrap32 wrap64
  congr 1
  omega
theorem wrap32_bd (a : Int) : -2147483648 ≤ wrap32 a ∧ wrap32 a < 2147483648 ∧ (a - wrap32 a) % 4294967296 = 0 := by unfold wrap32; omega
theorem wrap32_id {a : Int} (h0 : -2147483648 ≤ a) (h1 : a < 2147483648) : wrap32 a = a := by unfold wrap32; omega
theorem tmod_zero {a b : Int} (h : a % b = 0) : Int.tmod a b = 0 := Int.tmod_eq_zero_of_dvd (Int.dvd_of_emod_eq_zero h)
theorem tmod_bd (a : Int) : -2147483648 ≤ Int.tmod a 2147483648 ∧ Int.tmod a 2147483648 < 2147483648 := by
  have h1 := Int.tmod_lt_of_pos a (show (0 : Int) < 2147483648 by omega)
  have h2 := Int.tmod_eq_emod (a := a) (b := 2147483648)
  split at h2 <;> omega
theorem NumWraps : headlandlaw01_NumWraps.Pure := by
  intro a b ha hb
  have ha := wfb ha
  have hb := wfb hb
  refine ⟨13, ?_⟩
  unfold headlandlaw01_NumWraps.f
  obtain ⟨x0, x1, x2⟩ := wrap32_bd a
  obtain ⟨y0, y1, y2⟩ := wrap32_bd b
  have e1 : wrap32 (wrap64 (wrap32 a + wrap32 b)) = wrap32 (wrap64 (a + b)) := by unfold wrap32 wrap64; omega
  have e2 : wrap32 (wrap64 (wrap32 a - wrap32 b)) = wrap32 (wrap64 (a - b)) := by unfold wrap32 wrap64; omega
  have e3 : Int.tmod (wrap64 (a - wrap32 a)) 4294967296 = 0 := tmod_zero (by unfold wrap64; omega)
  obtain ⟨s0, s1⟩ := tmod_bd a
  obtain ⟨t0, t1⟩ := tmod_bd b
  simp only [wrap_eq, Option.bind_some]
  rw [if_neg (by omega), if_neg (by omega), if_pos e3]
  unfold headlandlaw01_NumWraps.j0
  simp only [wrap_eq, Option.bind_some]
  rw [wrap32_id x0 x1, wrap32_id s0 s1, wrap32_id t0 t1, e1, e2, awake_ok]
  simp

end Go.Proofs.Ytimjibbjbfmkoaa.Pure
