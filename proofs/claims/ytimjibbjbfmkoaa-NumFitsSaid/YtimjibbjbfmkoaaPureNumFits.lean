/- The plain law behind NumFits: Fits and Wrap of num and of the reference answer alike for all arguments (no condition). -/
import Derived.Test.YtimjibbjbfmkoaaPNumFitsx1
namespace Go.Proofs.Ytimjibbjbfmkoaa.Pure
open Go.RowKit Go.Proofs.Ytimjibbjbfmkoaa.PNumFits Go.Proofs.YtimjibbjbfmkoaaW.PrintWords Go.Proofs.YtimjibbjbfmkoaaW.PrintLast
set_option linter.unusedVariables false
set_option linter.unusedSimpArgs false

theorem wfb {n : Int} (h : (Lit.int .i64 n).wf = true) : -9223372036854775808 ≤ n ∧ n ≤ 9223372036854775807 := by
  simp only [Lit.wf, IntKind.min, IntKind.max, IntKind.signed, IntKind.bits, Bool.and_eq_true, decide_eq_true_eq, if_true] at h
  omega
theorem w64 {n : Int} (h0 : -9223372036854775808 ≤ n) (h1 : n ≤ 9223372036854775807) : wrap64 n = n := by unfold wrap64; omega
theorem wu64 (n : Int) : IntKind.u64.wrap n = n % 18446744073709551616 := by simp [IntKind.wrap, IntKind.bits, IntKind.signed]
theorem awake_ok : headlandlaw01_awake.f 12 = some true := by decide +kernel
theorem wrap_same (a : Int) : num_Wrap.f a = headlandref01_Wrap.f a := by
  unfold num_Wrap.f headlandref01_Wrap.f
  have h := bits_mask .u64 64 (by decide) (fun n h0 h1 => by rw [wu64]; omega) 32 (by decide) (a % 18446744073709551616) (by omega) (by omega)
  rw [wu64, show (4294967295 : Int) = 2 ^ 32 - 1 from rfl, h]
  unfold wrap32
  congr 2
  omega
theorem fits_some (a : Int) : ∃ r, num_Fits.f a = some r := by
  unfold num_Fits.f; split <;> exact ⟨_, rfl⟩
theorem NumFits : headlandlaw01_NumFits.Pure := by
  intro a _
  obtain ⟨x, hx⟩ := fits_some a
  refine ⟨12, ?_⟩
  unfold headlandlaw01_NumFits.f
  rw [wrap_same, show headlandref01_Fits.f a = num_Fits.f a from rfl, hx, awake_ok]
  unfold headlandref01_Wrap.f
  simp

end Go.Proofs.Ytimjibbjbfmkoaa.Pure
