/- CondOwn: for every condition no function of package cond changes its argument, and what is written into the results changes neither the argument nor its copy. No condition is laid on the arguments. -/
import Derived.Test.YtcakhbhjdpplcaaRows
import Derived.Test.YtcakhbhjdpplcaaLpW
import Derived.WalkKit
import Derived.ProofKit
import Derived.OpenShut
import Derived.ShutString
import Derived.ChangeOld
import Derived.Below
import Derived.SizedLaws
import Derived.Lib.SmallJoins
import Derived.Test.YtcakhbhjdpplcaaWSized
namespace Go.Proofs.Ytcakhbhjdpplcaa.condOwn
open Go.ChangeShapes Go.WideShapes Go.ChangeAt Go.RowKit Go.Joins Go.Deep Go.WideElems
set_option linter.unusedVariables false
set_option linter.unusedSimpArgs false
theorem own : ownKnob Try.prog.godebug = none := by kernel_rfl
theorem laidOut : laidOutB Try.prog = true := by kernel_rfl
def IsRow (k : IntKind) (w : World) (a : Option Addr) (len cap : Nat) (zs : List Int) : Prop :=
  (a = none ∧ len = 0 ∧ cap = 0 ∧ zs = []) ∨
  ∃ x, a = some x ∧ len ≤ cap ∧ cap ≤ maxLen ∧ zs.length = cap ∧ (∀ i, i < zs.length → w.cell? (x.add i) = some (.int k (zs.getD i 0))) ∧ ∀ n ∈ zs, (Lit.int k n).wf = true
theorem sized_parts {H : Type} {P : Program} {ts : List TypeId} {ds : List (DataW H)} {j : Nat} {t : TypeId} {fs : Array Field} {parts : List (DataW H)} (hsz : (DataW.weightsEach P ts ds).all (· ≤ reachBytes) = true) (ht : ts[j]? = some t) (hd : ds[j]? = some (.agg parts)) (hs : P.underlying t = some (.struct fs)) : (DataW.weightsEach P (fs.toList.map (·.type)) parts).all (· ≤ reachBytes) = true := by
  rw [List.all_eq_true] at hsz ⊢
  intro n hn
  exact hsz n (DataW.weights_mem_each ht hd n (by simp only [DataW.weights, hs]; exact hn))
set_option maxRecDepth 100000 in
theorem lifted (os : Os) (started : os.Started) (H : Type) (enc : TypeId × Value → H) :
    ReturnsInHanded {} Try.checked os 9 .any (Rows.condOwnSpec.pre6 enc Try.prog Try.f9 Rows.condOwnRow.domain false) (Rows.condOwnSpec.post enc Try.prog Try.f9 false true false false) := by
  refine returnsInHanded_of_change_sized (C := Try.checked) own started (by kernel_rfl) Try.func9
    (ChangeSpec.witness6 (enc := enc) (C := Try.checked) false ⟨#[], #[.agg #[.int .i64 0, .int .i64 0, .slice none 0 0, .int .i64 0]], []⟩ 8 (by kernel_rfl) (by kernel_rfl) (by kernel_rfl) (by kernel_rfl)) ?_
  intro W base args ds gs before hval0 hW hcnd hsz0 _
  have hsz : (DataW.weightsEach Try.prog (Try.f9.params.toList ++ Rows.condOwnSpec.plain.varTypes Try.prog) (ds ++ gs)).all (· ≤ reachBytes) = true := hsz0
  have hval : ∀ (j : Nat) t v, Try.f9.params[j]? = some t → args[j]? = some v → Value.okWide Try.prog W .any base t v := hval0
  have hW' := hW
  obtain ⟨p, q, hA0, hV, rfl, hfz, hnd⟩ := hW
  have hA : DataW.TrodAll enc Try.prog W 0 (fun _ => true) true Try.f9.params.toList args.toList ds p := hA0
  rw [Try.params9] at hA hval hsz
  obtain ⟨v0, vs0, d0, ds0, p0, q0, hargs, rfl, rfl, h0, r0⟩ := trodAll_cons hA
  obtain ⟨rfl, rfl, rfl⟩ := trodAll_nil r0
  obtain rfl : args = #[v0] := by cases args; simp_all
  obtain ⟨rfl, rfl⟩ := trodVars_none hV
  have k0 := h0
  have lt0 : ∀ x ∈ p0, x.block < W.heap.size := by obtain ⟨m, hm⟩ := k0; exact DataW.trod_lt m _ _ _ hm
  have o3_0 : Try.prog.cellsOf 3 = 1 := by kernel_rfl
  have o4_0 : Try.prog.cellsOf 22 = 1 := by kernel_rfl
  have o5_0 : Try.prog.cellsOf 24 = 2 := by kernel_rfl
  obtain ⟨cs0, rfl, hsq0⟩ := okWide_struct Try.underlying26 (hval 0 26 v0 rfl rfl)
  obtain ⟨qa0, qb0, qc0, qd0, rfl⟩ := array4 (hsq0.trans (by kernel_rfl))
  obtain ⟨fu0, hf0⟩ := h0
  obtain ⟨ya0, yb0, yc0, n0, hx0, _, ta0, tb0, tc0⟩ := trod_struct3 Try.underlying26 hf0
  have ua0 : DataW.trod enc Try.prog W 0 (fun _ => true) true n0 3 [qa0] = some ya0 := by simpa [Value.cells, o3_0] using ta0
  have ub0 : DataW.trod enc Try.prog W 0 (fun _ => true) true n0 3 [qb0] = some yb0 := by simpa [Value.cells, o3_0] using tb0
  have uc0 : DataW.trod enc Try.prog W 0 (fun _ => true) true n0 24 [qc0, qd0] = some yc0 := by simpa [Value.cells, o5_0] using tc0
  obtain ⟨yd0, ye0, m0, hy0, _, td0, te0⟩ := trod_struct2 Try.underlying24 uc0
  have ud0 : DataW.trod enc Try.prog W 0 (fun _ => true) true m0 22 [qc0] = some yd0 := by simpa [Value.cells, o4_0] using td0
  have ue0 : DataW.trod enc Try.prog W 0 (fun _ => true) true m0 3 [qd0] = some ye0 := by simpa [Value.cells, o3_0] using te0
  obtain ⟨kk0, hka0, _, x0⟩ := DataW.trod_int Try.underlying3 ua0
  obtain rfl := (List.cons.inj hka0).1
  obtain ⟨mm0, hkb0, _, xm0⟩ := DataW.trod_int Try.underlying3 ub0
  obtain rfl := (List.cons.inj hkb0).1
  obtain ⟨a0, len0, cap0, hkc0⟩ := slice_form Try.underlying22 ud0
  obtain rfl := (List.cons.inj hkc0).1
  obtain ⟨b0, hkd0, _, xb0⟩ := DataW.trod_int Try.underlying3 ue0
  obtain rfl := (List.cons.inj hkd0).1
  obtain ⟨z0, w0⟩ : ∃ zs, IsRow .i64 W a0 len0 cap0 zs := by
    rcases open_ints Try.underlying22 Try.underlying3 (by kernel_rfl) ud0 with ⟨hcs, _⟩ | ⟨x, l, c, zs, hcs, _, hl, hm, hz, _, hcell, hwz⟩
    · simp [Value.cells] at hcs
      obtain ⟨rfl, rfl, rfl⟩ := hcs
      exact ⟨[], .inl ⟨rfl, rfl, rfl, rfl⟩⟩
    · simp [Value.cells] at hcs
      obtain ⟨rfl, rfl, rfl⟩ := hcs
      exact ⟨zs, .inr ⟨_, rfl, hl, hm, by simpa using hz, hcell, hwz⟩⟩
  have ex0 : d0 = DataW.agg [ya0.1, yb0.1, yc0.1] := congrArg Prod.fst hx0
  have ey0 : yc0.1 = DataW.agg [yd0.1, ye0.1] := congrArg Prod.fst hy0
  have y0 : len0 * 8 ≤ 140737488351232 := Go.Proofs.YtcakhbhjdpplcaaW.PrintWords.sized_ints (sized_parts (sized_parts hsz (j := 0) rfl (congrArg some ex0) Try.underlying26) (j := 2) rfl (congrArg some ey0) Try.underlying24) (j := 0) (t := 22) rfl rfl Try.underlying22 Try.underlying3 (by kernel_rfl) (by kernel_rfl) (W := W) ⟨m0, ud0⟩
  clear hA0 hval0 hsz0 hsz
  refine (Lp.walkOwn kk0 mm0 a0 len0 cap0 z0 b0 W x0 xm0 w0 xb0 y0).mono fun e W' ⟨he, bel⟩ => ?_
  subst he
  exact ⟨_, rfl, _, _, _, [], _, [], hW', trodAll_mk1 (shut_bool Try.underlying4 _), (trodAll_cons_mk (Below.trod laidOut (by kernel_rfl) (of_decide_eq_true (by kernel_rfl)) k0 bel lt0) trodAll_mk0), rfl, bel.frame _, fun h => by cases h⟩
theorem over : Rows.condOwnRow.holds Try.pinned (OpenSpec.ofChange Rows.condOwnSpec) :=
  OpenClaim.holds_of_wide 9 Try.f9 rfl rfl rfl rfl rfl rfl rfl ⟨rfl, rfl, rfl, rfl, rfl⟩ rfl rfl rfl rfl rfl (by kernel_rfl) Try.func9 (by kernel_rfl)
    (of_decide_eq_true (by kernel_rfl)) (by unfold Func.isWrapper; first | (rw [if_pos (by decide +kernel)]; kernel_rfl) | (rw [if_neg (by decide +kernel)]; exact ⟨rfl, rfl⟩))
    (fun os started H enc _ => lifted os started H enc)
theorem proved : Rows.CondOwnSaid := over
#print axioms proved
end Go.Proofs.Ytcakhbhjdpplcaa.condOwn
namespace Go.Proofs.Ytcakhbhjdpplcaa
theorem condOwn_holds : Rows.CondOwnSaid := condOwn.proved
end Go.Proofs.Ytcakhbhjdpplcaa
