/- Contract of slices.Delete at []int, one element taken out of a row of one's own. -/
import Derived.Test.YtmafphfajgoojaaClone
import Derived.Lib.SliceRun
import Derived.Lib.BufferOwn
namespace Go.Proofs.Ytmafphfajgoojaa.Man
open Go.RowKit Go.Proofs.Ytmafphfajgoojaa Go.Proofs.YtmafphfajgoojaaW.PrintWords Go.Proofs.YtmafphfajgoojaaW.PrintLast Go.Proofs.YtmafphfajgoojaaW.PrintMore
set_option linter.unusedVariables false
set_option linter.unusedSimpArgs false
/-- A store behind the row's end. -/
theorem R_behind {W : World} {base g m c : Nat} {ok : Nat → Prop} {xs : List Int} (h : (Kd.int .i64).R 3 W base ok (.slice (some ⟨g, 0, none⟩) m c) xs) (j : Nat) (hj : m ≤ j) (u : Value) :
    (Kd.int .i64).R 3 (W.setCell ⟨g, j, none⟩ u) base ok (.slice (some ⟨g, 0, none⟩) m c) xs := by
  obtain ⟨hok, inner, hown, hr⟩ := h
  refine ⟨hok, inner, ?_, ?_⟩
  · rcases hown.2 with ⟨hv, _⟩ | ⟨g', cap', cur, hv, hb, hh, h5, hcm, hcs, htake⟩
    · cases hv
    · have hv' := hv
      injection hv' with ha _ hc
      injection ha with ha
      injection ha with hg
      subst hg; subst hc
      refine ⟨hown.1, .inr ⟨g, c, cur.setIfInBounds j u, by simpa using hv, hb, blk_put hh j u rfl, h5, hcm, by simpa using hcs, ?_⟩⟩
      rw [Array.toList_setIfInBounds, List.take_set_of_le (show xs.length * (Kd.int .i64).sz ≤ j by show xs.length * 1 ≤ j; omega)]
      exact htake
  · exact hr
set_option maxHeartbeats 4000000 in
set_option maxRecDepth 100000 in
theorem delete_calls (g c : Nat) (i : Nat) (xs : List Int) (ok : Nat → Prop) (w0 w : World) (base : Nat) (hi : i < xs.length) (hlen : xs.length ≤ 12) (hR : (Kd.int .i64).R 3 w base ok (.slice (some ⟨g, 0, none⟩) xs.length c) xs) (hB : Below base w0 w) (hbase : base ≤ w.heap.size) :
    Calls Try.prog 54 #[.slice (some ⟨g, 0, none⟩) xs.length c, .int .i64 (i : Int), .int .i64 ((i : Int) + 1)] w fun e w' => e = .returned (.slice (some ⟨g, 0, none⟩) (xs.length - 1) c) ∧ (Kd.int .i64).R 3 w' base ok (.slice (some ⟨g, 0, none⟩) (xs.length - 1) c) (xs.eraseIdx i) ∧ Below base w0 w' ∧ Kept w w' (fun k => k = g) := by
  have HR := Aside0.mk hR
  have HB := Aside0.mk hB
  clear hR hB
  obtain ⟨_, hnc, _⟩ := Kd.R_reads' HR.out
  have f1 := eq_true (show (xs.length : Int) ≤ (c : Int) by omega)
  have f2 := eq_true (show (0 : Int) ≤ (xs.length : Int) by omega)
  have f3 := eq_true (show (i : Int) + 1 ≤ (xs.length : Int) by omega)
  have f4 := eq_true (show (0 : Int) ≤ (i : Int) + 1 by omega)
  have f5 := eq_true (show (0 : Int) ≤ (i : Int) by omega)
  have f6 := eq_true (show (i : Int) ≤ (c : Int) by omega)
  have f7 := eq_true (show i ≤ i + 1 by omega)
  have f8 : ((i : Int) == (i : Int) + 1) = false := beq_eq_false_iff_ne.2 (by omega)
  have f9 := eq_true (show (i : Int) + 1 ≤ (c : Int) by omega)
  go_enter Try.func54, Try.ntmps54
  go_wp2
  have HR2 := Aside0.mk (Kd.R_drew HR.out)
  have HB2 := Aside0.mk (below_drew1 HB.out)
  refine start_ (n := 8) (S := fun _ => True) (ds := []) #[false, false, false, false, false, false, false, false] (by kernel_rfl) rfl rfl trivial (fun hHeld => ?_)
  refine pure_ (i := 0) (N := some 20) (v := ?_) (a' := ?_) #[true, false, false, false, false, false, false, false] rfl rfl (by kernel_rfl) (fun _ _ _ h => h) (Or.inl ⟨by rfl, ?_⟩) ?_ ?_
  rotate_left
  · intro w'
    go_simp
    with_reducible rfl
  rotate_left
  · simp only [Act.put, List.setIfInBounds_toArray, List.set_cons_zero, List.set_cons_succ, i64_w, i32_w]
    rfl
  refine pure_ (i := 1) (N := some 21) (v := ?_) (a' := ?_) #[true, true, false, false, false, false, false, false] rfl rfl (by kernel_rfl) (fun _ _ _ h => h) (Or.inl ⟨by rfl, ?_⟩) ?_ ?_
  rotate_left
  · intro w'
    go_simp
    with_reducible rfl
  rotate_left
  · simp only [Act.put, List.setIfInBounds_toArray, List.set_cons_zero, List.set_cons_succ, i64_w, i32_w]
    rfl
  refine pure_ (i := 2) (N := some 22) (v := ?_) (a' := ?_) #[true, true, true, false, false, false, false, false] rfl rfl (by kernel_rfl) (fun _ _ _ h => h) (Or.inl ⟨by rfl, ?_⟩) ?_ ?_
  rotate_left
  · intro w'
    go_simp
    with_reducible rfl
  rotate_left
  · simp only [Act.put, List.setIfInBounds_toArray, List.set_cons_zero, List.set_cons_succ, i64_w, i32_w]
    rfl
  refine pure_ (i := 3) (N := some 23) (v := ?_) (a' := ?_) #[true, true, true, true, false, false, false, false] rfl rfl (by kernel_rfl) (fun _ _ _ h => h) (Or.inl ⟨by rfl, ?_⟩) ?_ ?_
  rotate_left
  · intro w'
    go_simp
    with_reducible rfl
  rotate_left
  · simp only [Act.put, List.setIfInBounds_toArray, List.set_cons_zero, List.set_cons_succ, i64_w, i32_w]
    rfl
  refine pure_ (i := 4) (N := some 24) (v := ?_) (a' := ?_) #[true, true, true, true, true, false, false, false] rfl rfl (by kernel_rfl) (fun _ _ _ h => h) (Or.inl ⟨by rfl, ?_⟩) ?_ ?_
  rotate_left
  · intro w'
    go_simp
    with_reducible rfl
  rotate_left
  · simp only [Act.put, List.setIfInBounds_toArray, List.set_cons_zero, List.set_cons_succ, i64_w, i32_w]
    rfl
  refine pure_ (i := 5) (N := some 25) (v := ?_) (a' := ?_) #[true, true, true, true, true, true, false, false] rfl rfl (by kernel_rfl) (fun _ _ _ h => h) (Or.inl ⟨by rfl, ?_⟩) ?_ ?_
  rotate_left
  · intro w'
    go_simp
    with_reducible rfl
  rotate_left
  · simp only [Act.put, List.setIfInBounds_toArray, List.set_cons_zero, List.set_cons_succ, i64_w, i32_w]
    rfl
  refine one_ (i := 6) (N := some 26) #[true, true, true, true, true, true, true, false] rfl rfl (by kernel_rfl) (by decide) (fun K hK => ?_)
  refine Kd.R_delete_step (Kd.int .i64) (w0 := w0) base (by rfl) (.tmp 22) (.tmp 25) 22 3 rfl Try.underlying22 (by kernel_rfl) rfl rfl ?hA ?hm HR2.out hi HB2.out hbase ?_
  case hA => split <;> simp [Addr.add, Kd.int, Kd.scalar]
  case hm => rfl
  intro w1 ho hb hg
  have HO := Aside0.mk ho
  have HB3 := Aside0.mk hb
  have HG := Aside0.mk hg
  clear ho hb hg
  refine hK.out _ _ trivial (fun hHeld => ?_)
  clear hK K
  refine norm_ (a' := ?_) ?_ ?_
  rotate_left
  · show Act.put _ (some 26) _ = _
    simp only [Act.put, List.setIfInBounds_toArray, List.set_cons_zero, List.set_cons_succ, i64_w, i32_w]
    rfl
  refine pure_ (i := 7) (N := some 0) (v := ?_) (a' := ?_) #[true, true, true, true, true, true, true, true] rfl rfl (by kernel_rfl) (fun _ _ _ h => h) (Or.inl ⟨by rfl, ?_⟩) ?_ ?_
  rotate_left
  · intro w'
    go_simp
    with_reducible rfl
  rotate_left
  · simp only [Act.put, List.setIfInBounds_toArray, List.set_cons_zero, List.set_cons_succ, i64_w, i32_w]
    rfl
  refine done_ (by kernel_rfl) ?_
  have g1 := eq_true (show ((xs.length - 1 : Nat) : Int) ≤ (xs.length : Int) by omega)
  have g2 := eq_true (show (0 : Int) ≤ ((xs.length - 1 : Nat) : Int) by omega)
  have g3 := eq_true (show xs.length - 1 ≤ xs.length by omega)
  have g4 : xs.length - (xs.length - 1) = 1 := by omega
  obtain ⟨cur, hcur, hcs⟩ : ∃ cur : Array Value, w1.heap[g]? = some (.cells cur 3 (0, 0)) ∧ cur.size = c := by
    obtain ⟨inner, hown⟩ := Kd.R_own HO.out
    rcases hown.2 with ⟨hv, _⟩ | ⟨g', cap', cur, hv, hb, hh, h5, hcm, hcs, htake⟩
    · cases hv
    · injection hv with ha _ hc
      injection ha with ha
      injection ha with hg
      subst hg; subst hc
      exact ⟨cur, hh, by simpa [Kd.int, Kd.scalar] using hcs⟩
  have hclr : (Builtin.clear_ #[22] 0 #[.slice (some ⟨g, xs.length - 1, none⟩) 1 (c - (xs.length - 1))]).run Try.prog w1 = .ok (.tuple #[]) (w1.setCell ⟨g, xs.length - 1, none⟩ (.int .i64 0)) :=
    Go.Lib.run_clear_slice w1 22 3 0 (.int .i64 0) Try.underlying22 (fun w => by go_simp) rfl rfl g (xs.length - 1) 1 _ (by decide) (fun j hj => by rw [blk_cell hcur]; simp; omega) (fun j _ => blk_frozen hcur _)
  have hge : base ≤ g := Kd.R_base HO.out g (by simp [Value.ownBlock])
  have hfin : (Kd.int .i64).R 3 (w1.setCell ⟨g, xs.length - 1, none⟩ (.int .i64 0)) base ok (.slice (some ⟨g, 0, none⟩) (xs.length - 1) c) (xs.eraseIdx i) ∧ Below base w0 (w1.setCell ⟨g, xs.length - 1, none⟩ (.int .i64 0)) ∧ Kept w (w1.setCell ⟨g, xs.length - 1, none⟩ (.int .i64 0)) (fun k => k = g) :=
    ⟨R_behind HO.out (xs.length - 1) (Nat.le_refl _) _, HB3.out.trans (Below.setCell (Below.refl _ _) hge _), Kept.setCell (w := w) (W := w1) (S := fun k => k = g) ⟨HG.out.size, fun i hi hn => HG.out.block i hi (fun e => hn (by injection e))⟩ (p := ⟨g, xs.length - 1, none⟩) (.inl rfl) _⟩
  have HF := Aside0.mk hfin
  clear hfin
  go_wp2
  all_goals go_ret
  all_goals first
    | exact ⟨rfl, HF.out⟩
    | (have hf_ := HF.out; clear HF HO HB3 HG HR HR2 HB HB2; refine ⟨by simp_all, ?_⟩; simp_all)
    | (have hc_ : c = i + 1 := by assumption
       have hf_ := HF.out
       rw [hc_] at hf_
       exact ⟨by rw [hc_], hf_⟩)
    | (have hc_ : c = i + 1 := by omega
       have hf_ := HF.out
       rw [hc_] at hf_
       exact ⟨by rw [hc_], hf_⟩)
end Go.Proofs.Ytmafphfajgoojaa.Man
