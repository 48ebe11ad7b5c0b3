/- The plain law behind NumDivides: Floor, Ceil and Mod of num and of the reference answer alike for all arguments (no condition). -/
import Derived.Test.YtimjibbjbfmkoaaPNumDividesx2
namespace Go.Proofs.Ytimjibbjbfmkoaa.Pure
open Go.RowKit Go.Proofs.Ytimjibbjbfmkoaa.PNumDivides Go.Proofs.YtimjibbjbfmkoaaW.PrintWords Go.Proofs.YtimjibbjbfmkoaaW.PrintLast
set_option linter.unusedVariables false
set_option linter.unusedSimpArgs false

theorem wfb {n : Int} (h : (Lit.int .i64 n).wf = true) : -9223372036854775808 ≤ n ∧ n ≤ 9223372036854775807 := by
  simp only [Lit.wf, IntKind.min, IntKind.max, IntKind.signed, IntKind.bits, Bool.and_eq_true, decide_eq_true_eq, if_true] at h
  omega
theorem w64 {n : Int} (h0 : -9223372036854775808 ≤ n) (h1 : n ≤ 9223372036854775807) : wrap64 n = n := by unfold wrap64; omega
theorem wu64 (n : Int) : IntKind.u64.wrap n = n % 18446744073709551616 := by simp [IntKind.wrap, IntKind.bits, IntKind.signed]
theorem awake_ok : headlandlaw01_awake.f 12 = some true := by decide +kernel
theorem floor_some (a b : Int) : ∃ r, num_Floor.f a b = some r := by
  unfold num_Floor.f
  repeat' split
  all_goals first | exact ⟨_, rfl⟩ | (exfalso; omega)
theorem ceil_some (a b : Int) : ∃ r, num_Ceil.f a b = some r := by
  unfold num_Ceil.f
  repeat' split
  all_goals first | exact ⟨_, rfl⟩ | (exfalso; omega)
theorem mod_some (a b : Int) : ∃ r, num_Mod.f a b = some r := by
  unfold num_Mod.f
  repeat' split
  all_goals first | exact ⟨_, rfl⟩ | (exfalso; omega)
theorem NumDivides : headlandlaw01_NumDivides.Pure := by
  intro a b _ _
  obtain ⟨x, hx⟩ := floor_some a b
  obtain ⟨y, hy⟩ := ceil_some a b
  obtain ⟨z, hz⟩ := mod_some a b
  refine ⟨12, ?_⟩
  unfold headlandlaw01_NumDivides.f
  rw [show headlandref01_Floor.f a b = num_Floor.f a b from rfl, show headlandref01_Ceil.f a b = num_Ceil.f a b from rfl, show headlandref01_Mod.f a b = num_Mod.f a b from rfl, hx, hy, hz, awake_ok]
  simp

end Go.Proofs.Ytimjibbjbfmkoaa.Pure
