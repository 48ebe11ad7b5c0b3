/- CondNegates: for every condition Negate answers the list of conditions, or the error, that the reference answers. No condition is laid on the arguments. -/
import Derived.Test.YtcakhbhjdpplcaaRows
import Derived.Test.YtcakhbhjdpplcaaLpZ
import Derived.WalkKit
import Derived.ProofKit
import Derived.OpenShut
import Derived.ShutString
import Derived.ChangeOld
import Derived.Below
import Derived.SizedLaws
import Derived.Lib.SmallJoins
import Derived.Test.YtcakhbhjdpplcaaWSized
namespace Go.Proofs.Ytcakhbhjdpplcaa.condNegates
open Go.ChangeShapes Go.WideShapes Go.ChangeAt Go.RowKit Go.Joins Go.Deep Go.WideElems
set_option linter.unusedVariables false
set_option linter.unusedSimpArgs false
theorem own : ownKnob Try.prog.godebug = none := by kernel_rfl
theorem laidOut : laidOutB Try.prog = true := by kernel_rfl
def IsRow (k : IntKind) (w : World) (a : Option Addr) (len cap : Nat) (zs : List Int) : Prop :=
  (a = none ∧ len = 0 ∧ cap = 0 ∧ zs = []) ∨
  ∃ x, a = some x ∧ len ≤ cap ∧ cap ≤ maxLen ∧ zs.length = cap ∧ (∀ i, i < zs.length → w.cell? (x.add i) = some (.int k (zs.getD i 0))) ∧ ∀ n ∈ zs, (Lit.int k n).wf = true
set_option maxRecDepth 100000 in
theorem lifted (os : Os) (started : os.Started) (H : Type) (enc : TypeId × Value → H) :
    ReturnsInHanded {} Try.checked os 6 .any (Rows.condNegatesSpec.pre6 enc Try.prog Try.f6 Rows.condNegatesRow.domain false) (Rows.condNegatesSpec.post enc Try.prog Try.f6 false true false false) := by
  refine returnsInHanded_of_change_sized (C := Try.checked) own started (by kernel_rfl) Try.func6
    (ChangeSpec.witness6 (enc := enc) (C := Try.checked) false ⟨#[], #[.agg #[.int .i64 0, .int .i64 0, .slice none 0 0, .int .i64 0]], []⟩ 8 (by kernel_rfl) (by kernel_rfl) (by kernel_rfl) (by kernel_rfl)) ?_
  intro W base args ds gs before hval0 hW hcnd hsz0 _
  have hsz : (DataW.weightsEach Try.prog (Try.f6.params.toList ++ Rows.condNegatesSpec.plain.varTypes Try.prog) (ds ++ gs)).all (· ≤ reachBytes) = true := hsz0
  have hval : ∀ (j : Nat) t v, Try.f6.params[j]? = some t → args[j]? = some v → Value.okWide Try.prog W .any base t v := hval0
  have hW' := hW
  obtain ⟨p, q, hA0, hV, rfl, hfz, hnd⟩ := hW
  have hA : DataW.TrodAll enc Try.prog W 0 (fun _ => true) true Try.f6.params.toList args.toList ds p := hA0
  rw [Try.params6] at hA hval hsz
  obtain ⟨v0, vs0, d0, ds0, p0, q0, hargs, rfl, rfl, h0, r0⟩ := trodAll_cons hA
  obtain ⟨rfl, rfl, rfl⟩ := trodAll_nil r0
  obtain rfl : args = #[v0] := by cases args; simp_all
  obtain ⟨rfl, rfl⟩ := trodVars_none hV
  have k0 := h0
  have lt0 : ∀ x ∈ p0, x.block < W.heap.size := by obtain ⟨m, hm⟩ := k0; exact DataW.trod_lt m _ _ _ hm
  have o3_0 : Try.prog.cellsOf 3 = 1 := by kernel_rfl
  have o4_0 : Try.prog.cellsOf 22 = 1 := by kernel_rfl
  have o5_0 : Try.prog.cellsOf 24 = 2 := by kernel_rfl
  obtain ⟨cs0, rfl, hsq0⟩ := okWide_struct Try.underlying26 (hval 0 26 v0 rfl rfl)
  obtain ⟨qa0, qb0, qc0, qd0, rfl⟩ := array4 (hsq0.trans (by kernel_rfl))
  obtain ⟨fu0, hf0⟩ := h0
  obtain ⟨ya0, yb0, yc0, n0, hx0, _, ta0, tb0, tc0⟩ := trod_struct3 Try.underlying26 hf0
  have ua0 : DataW.trod enc Try.prog W 0 (fun _ => true) true n0 3 [qa0] = some ya0 := by simpa [Value.cells, o3_0] using ta0
  have ub0 : DataW.trod enc Try.prog W 0 (fun _ => true) true n0 3 [qb0] = some yb0 := by simpa [Value.cells, o3_0] using tb0
  have uc0 : DataW.trod enc Try.prog W 0 (fun _ => true) true n0 24 [qc0, qd0] = some yc0 := by simpa [Value.cells, o5_0] using tc0
  obtain ⟨yd0, ye0, m0, hy0, _, td0, te0⟩ := trod_struct2 Try.underlying24 uc0
  have ud0 : DataW.trod enc Try.prog W 0 (fun _ => true) true m0 22 [qc0] = some yd0 := by simpa [Value.cells, o4_0] using td0
  have ue0 : DataW.trod enc Try.prog W 0 (fun _ => true) true m0 3 [qd0] = some ye0 := by simpa [Value.cells, o3_0] using te0
  obtain ⟨kk0, hka0, _, x0⟩ := DataW.trod_int Try.underlying3 ua0
  obtain rfl := (List.cons.inj hka0).1
  obtain ⟨mm0, hkb0, _, xm0⟩ := DataW.trod_int Try.underlying3 ub0
  obtain rfl := (List.cons.inj hkb0).1
  obtain ⟨a0, len0, cap0, hkc0⟩ := slice_form Try.underlying22 ud0
  obtain rfl := (List.cons.inj hkc0).1
  obtain ⟨b0, hkd0, _, xb0⟩ := DataW.trod_int Try.underlying3 ue0
  obtain rfl := (List.cons.inj hkd0).1
  obtain ⟨z0, w0⟩ : ∃ zs, IsRow .i64 W a0 len0 cap0 zs := by
    rcases open_ints Try.underlying22 Try.underlying3 (by kernel_rfl) ud0 with ⟨hcs, _⟩ | ⟨x, l, c, zs, hcs, _, hl, hm, hz, _, hcell, hwz⟩
    · simp [Value.cells] at hcs
      obtain ⟨rfl, rfl, rfl⟩ := hcs
      exact ⟨[], .inl ⟨rfl, rfl, rfl, rfl⟩⟩
    · simp [Value.cells] at hcs
      obtain ⟨rfl, rfl, rfl⟩ := hcs
      exact ⟨zs, .inr ⟨_, rfl, hl, hm, by simpa using hz, hcell, hwz⟩⟩
  clear hA0 hval0 hsz0 hsz
  refine (Lp.walkNegates kk0 mm0 a0 len0 cap0 z0 b0 W x0 xm0 w0 xb0).mono fun e W' ⟨he, bel⟩ => ?_
  subst he
  exact ⟨_, rfl, _, _, _, [], _, [], hW', trodAll_mk1 (shut_bool Try.underlying4 _), (trodAll_cons_mk (Below.trod laidOut (by kernel_rfl) (of_decide_eq_true (by kernel_rfl)) k0 bel lt0) trodAll_mk0), rfl, bel.frame _, fun h => by cases h⟩
theorem over : Rows.condNegatesRow.holds Try.pinned (OpenSpec.ofChange Rows.condNegatesSpec) :=
  OpenClaim.holds_of_wide 6 Try.f6 rfl rfl rfl rfl rfl rfl rfl ⟨rfl, rfl, rfl, rfl, rfl⟩ rfl rfl rfl rfl rfl (by kernel_rfl) Try.func6 (by kernel_rfl)
    (of_decide_eq_true (by kernel_rfl)) (by unfold Func.isWrapper; first | (rw [if_pos (by decide +kernel)]; kernel_rfl) | (rw [if_neg (by decide +kernel)]; exact ⟨rfl, rfl⟩))
    (fun os started H enc _ => lifted os started H enc)
theorem proved : Rows.CondNegatesSaid := over
#print axioms proved
end Go.Proofs.Ytcakhbhjdpplcaa.condNegates
namespace Go.Proofs.Ytcakhbhjdpplcaa
theorem condNegates_holds : Rows.CondNegatesSaid := condNegates.proved
end Go.Proofs.Ytcakhbhjdpplcaa
