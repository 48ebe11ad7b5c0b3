/- Contract of cond.others: the conditions that hold where one does not, as they come; the coefficients may be those of the argument. -/
import Derived.Test.YtcakhbhjdpplcaaKc
import Derived.Test.YtcakhbhjdpplcaaOp1
import Derived.Deep.DeepCutAuto
import Derived.Deep.CutRange
import Derived.Deep.LoopGhost
import Derived.Outline
namespace Go.Proofs.Ytcakhbhjdpplcaa.Man
open Go.RowKit Go.Proofs.Ytcakhbhjdpplcaa Go.Proofs.YtcakhbhjdpplcaaW.PrintWords Go.Proofs.YtcakhbhjdpplcaaW.PrintLast Go.Proofs.YtcakhbhjdpplcaaW.PrintMore Go.Proofs.Ytcakhbhjdpplcaa.Kc
set_option linter.unusedVariables false
set_option linter.unusedSimpArgs false
/-- Element j of a row's cells is the condition x; what it leads to lies in ok. -/
def El (W : World) (ok : Nat → Prop) (inner : List Value) (j : Nat) (x : S26) : Prop := ∃ A c, inner[j * 4]? = some (.int .i64 x.f0) ∧ inner[j * 4 + 1]? = some (.int .i64 x.f1) ∧ inner[j * 4 + 2]? = some (.slice A x.f2.f0.length c) ∧ inner[j * 4 + 3]? = some (.int .i64 x.f2.f1) ∧ x.f2.f0.length ≤ c ∧ Kd.F (Kd.int .i64) W ok A x.f2.f0.length x.f2.f0
theorem V_of_cells {W : World} {g cap base : Nat} {ok : Nat → Prop} {cur : Array Value} {inner : List Value} {xs : List S26} (hg : W.heap[g]? = some (.cells cur 26 (0, 0))) (hok : ok g) (hcap : xs.length ≤ cap) (hm : xs.length ≤ 9223372036854775807) (hi : cur.toList.take (xs.length * 4) = inner)
    (he : ∀ j x, xs[j]? = some x → El W ok inner j x) : Kd.V k26 26 W base ok (.slice (some ⟨g, 0, none⟩) xs.length cap) xs := by
  refine Kd.V_mk hcap (fun W' hW => ⟨rfl, hm, fun hp => ⟨⟨g, 0, none⟩, rfl, fun j x hj => ?_⟩⟩)
  obtain ⟨A, c, h0, h1, h2, h3, hl, hF⟩ := he j x hj
  have hjl : j < xs.length := (List.getElem?_eq_some_iff.1 hj).1
  refine ⟨_, rfl, k26_mk W' x hl (hF W' hW), fun i u hu => ?_⟩
  have hb : W'.heap[g]? = some (.cells cur 26 (0, 0)) := (hW g hok (blk_lt hg)).trans hg
  have hc : ∀ q v, inner[q]? = some v → W'.cell? ⟨g, q, none⟩ = some v := by
    intro q v hq
    rw [blk_cell hb]
    rw [← hi, List.getElem?_take] at hq
    split at hq
    · simpa using hq
    · cases hq
  rw [add_plain]
  have hi4 : i = 0 ∨ i = 1 ∨ i = 2 ∨ i = 3 := by
    have := (List.getElem?_eq_some_iff.1 hu).1
    simp at this
    omega
  rcases hi4 with rfl | rfl | rfl | rfl
  · simp at hu; subst hu; exact hc _ _ h0
  · simp at hu; subst hu; exact hc _ _ h1
  · simp at hu; subst hu; exact hc _ _ h2
  · simp at hu; subst hu; exact hc _ _ h3
theorem V_of_own {W : World} {B n base : Nat} {ok : Nat → Prop} {v : Value} {inner : List Value} {xs : List S26} (ho : W.ownsRow B 26 4 v n inner) (hn : n = xs.length) (hB : ∀ k, B ≤ k → ok k)
    (he : ∀ j x, xs[j]? = some x → El W ok inner j x) : Kd.V k26 26 W base ok v xs := by
  subst hn
  rcases ho.2 with ⟨rfl, h0⟩ | ⟨g, cap, cur, rfl, hb, hh, h5, hcm, hcs, htake⟩
  · rw [List.length_eq_zero_iff.1 h0]
    exact Kd.V_nil _ _ _ _ _
  · exact V_of_cells hh (hB g hb) h5 (by unfold maxLen at hcm; omega) htake he
def other (m : Int) (l : List Int) (K : Int) (r : Nat) : S26 := ⟨2, m, ⟨l, wrap64 (K - ((r : Int) + 1))⟩⟩
def cond_others.f (k : Nat) (a0_0 a0_1 : Int) (l0_2 : List Int) (a0_3 : Int) : Option (List S26) :=
  (Op.cond_opposite.f k l0_2 a0_3 (-1)).bind fun t => if a0_0 = 0 then some [⟨0, 0, ⟨t.1, t.2⟩⟩] else if a0_0 = 1 then some [⟨0, 0, ⟨l0_2, wrap64 (a0_3 - 1)⟩⟩, ⟨0, 0, ⟨t.1, t.2⟩⟩] else if a0_1 ≤ 1000 then some ((List.range (a0_1 - 1).toNat).map (other a0_1 l0_2 a0_3)) else none
theorem cond_others.mono : ∀ a0 a1 a2 a3 k, LeO (cond_others.f k a0 a1 a2 a3) (cond_others.f (k + 1) a0 a1 a2 a3) := by
  intro a0 a1 a2 a3 k
  unfold cond_others.f
  exact LeO.bind (Op.cond_opposite.mono _ _ _ _) (fun _ => LeO.refl _)
theorem info26 : (Try.prog.info? 26).map (fun i => (i.zero, i.size, i.bytes)) = some (some (.agg #[.int .i64 0, .int .i64 0, .slice none 0 0, .int .i64 0]), 4, 48) := by kernel_rfl
def othersCells (A : Option Addr) (n c : Nat) (m K : Int) : Nat → List Value
  | 0 => []
  | r + 1 => othersCells A n c m K r ++ [.int .i64 2, .int .i64 m, .slice A n c, .int .i64 (wrap64 (K - ((r : Int) + 1)))]
theorem othersCells_len (A : Option Addr) (n c : Nat) (m K : Int) : ∀ r, (othersCells A n c m K r).length = r * 4
  | 0 => rfl
  | r + 1 => by rw [othersCells, List.length_append, othersCells_len A n c m K r]; simp; omega
theorem othersCells_get (A : Option Addr) (n c : Nat) (m K : Int) : ∀ r j, j < r → (othersCells A n c m K r)[j * 4]? = some (.int .i64 2) ∧ (othersCells A n c m K r)[j * 4 + 1]? = some (.int .i64 m) ∧ (othersCells A n c m K r)[j * 4 + 2]? = some (.slice A n c) ∧ (othersCells A n c m K r)[j * 4 + 3]? = some (.int .i64 (wrap64 (K - ((j : Int) + 1))))
  | 0, j, h => absurd h (Nat.not_lt_zero j)
  | r + 1, j, h => by
    have hl := othersCells_len A n c m K r
    rw [othersCells]
    by_cases hj : j < r
    · rw [List.getElem?_append_left (by omega), List.getElem?_append_left (by omega), List.getElem?_append_left (by omega), List.getElem?_append_left (by omega)]
      exact othersCells_get A n c m K r j hj
    · obtain rfl : j = r := by omega
      rw [List.getElem?_append_right (by omega), List.getElem?_append_right (by omega), List.getElem?_append_right (by omega), List.getElem?_append_right (by omega), hl, Nat.sub_self, show j * 4 + 1 - j * 4 = 1 by omega, show j * 4 + 2 - j * 4 = 2 by omega, show j * 4 + 3 - j * 4 = 3 by omega]
      exact ⟨rfl, rfl, rfl, rfl⟩
set_option maxHeartbeats 8000000 in
set_option maxRecDepth 100000 in
theorem cond_others.calls (k : Nat) (a0_0 : Int) (a0_1 : Int) (P0_2_ : Nat → Prop) (A0_2 : Option Addr) (c0_2 : Nat) (l0_2 : List Int) (a0_3 : Int) (r : List S26) (w : World) (hs0_2 : Kd.V (Kd.int .i64) 3 w w.heap.size (fun k_ => P0_2_ k_) (.slice A0_2 l0_2.length c0_2) l0_2) (h : cond_others.f k a0_0 a0_1 l0_2 a0_3 = some r) :
    Calls Try.prog 32 #[.agg #[.int .i64 a0_0, .int .i64 a0_1, .slice A0_2 l0_2.length c0_2, .int .i64 a0_3]] w fun e w' => ∃ v0_ : Value, e = .returned (v0_) ∧ Kd.V k26 26 w' w.heap.size (fun k_ => P0_2_ k_ ∨ w.heap.size ≤ k_) v0_ r ∧ Below w.heap.size w w' := by
  unfold cond_others.f at h
  obtain ⟨⟨r1, r2⟩, hop, h⟩ := Option.bind_eq_some_iff.1 h
  obtain ⟨_, hcap, hF⟩ := Kd.V_at hs0_2
  have HF := Aside0.mk hF
  have HCap := Aside0.mk hcap
  have HOp := Aside0.mk hop
  have H := Aside0.mk h
  clear h hop hs0_2 hF hcap
  go_enter Try.func32, Try.ntmps32
  go_upto_region 1 with fail
  obtain ⟨w1, hw1⟩ : ∃ w1, w1 = w.alloc (.cells #[.int .i64 a0_0, .int .i64 a0_1, .slice A0_2 l0_2.length c0_2, .int .i64 a0_3] 26) := ⟨_, rfl⟩
  obtain ⟨g1, hg1⟩ : ∃ g1, g1 = w.heap.size := ⟨_, rfl⟩
  rw [← hw1, ← hg1]
  have hb1 : Below w.heap.size w w1 := by rw [hw1]; exact below_alloc (Below.refl _ _) _
  have k1 : w1.heap[g1]? = some (.cells #[.int .i64 a0_0, .int .i64 a0_1, .slice A0_2 l0_2.length c0_2, .int .i64 a0_3] 26 (0, 0)) := by rw [hw1, hg1]; exact blk_new _ _
  have HB1 := Aside0.mk hb1
  have HK1 := Aside0.mk k1
  have x0 := (blk_cell k1 0).trans rfl
  have x1 := (blk_cell k1 1).trans rfl
  have x2 := (blk_cell k1 2).trans rfl
  have x3 := (blk_cell k1 3).trans rfl
  clear hw1 hg1 hb1 k1
  go_wp2_with fail
  (with_reducible refine (Op.cond_opposite.calls k A0_2 c0_2 l0_2 a0_3 (-1) r1 r2 _ (Kd.C_below (Kd.F_now HF.out) HB1.out) HCap.out HOp.out).mono ?_)
  rintro e' w2 ⟨v, rfl, hR, hb⟩
  obtain ⟨A, c, rfl⟩ := Kd.R_slice hR
  go_upto_region 2 with fail
  obtain ⟨w3, hw3⟩ : ∃ w3, w3 = w2.alloc (.cells #[.int .i64 0, .int .i64 0, .slice A r1.length c, .int .i64 r2] 26) := ⟨_, rfl⟩
  obtain ⟨g3, hg3⟩ : ∃ g3, g3 = w2.heap.size := ⟨_, rfl⟩
  rw [← hw3, ← hg3]
  have hb3 : Below w2.heap.size w2 w3 := by rw [hw3]; exact below_alloc (Below.refl _ _) _
  have k3 : w3.heap[g3]? = some (.cells #[.int .i64 0, .int .i64 0, .slice A r1.length c, .int .i64 r2] 26 (0, 0)) := by rw [hw3, hg3]; exact blk_new _ _
  have hrd := (Kd.R_reads' hR).2.1
  have hv2 := Kd.V_F (Kd.R_V (base' := 0) (Kd.R_mono (ok' := fun k_ => P0_2_ k_ ∨ w.heap.size ≤ k_) (Kd.R_bound hR) (fun k hk => .inr (Nat.le_trans HB1.out.size hk.2.1))))
  have HLess := Aside0.mk (And.intro hrd (Kd.F_below hv2 hb3))
  have hB3 := below_then (below_then HB1.out HB1.out.size hb) (Nat.le_trans HB1.out.size hb.size) hb3
  have HArg := Aside0.mk (Kd.F_mono (ok' := fun k_ => P0_2_ k_ ∨ w.heap.size ≤ k_) (Kd.F_below HF.out hB3) (fun k hk => .inl hk))
  have HB3 := Aside0.mk hB3
  have HK3 := Aside0.mk k3
  have HK13 := Aside0.mk (blk_below (blk_below HK1.out hb) hb3)
  clear hR hb hb3 k3 hw3 hg3 hrd hv2 hB3 x0 x1 x2 x3 HF HB1 HK1
  have x0 : w3.cell? ⟨g1, 0, none⟩ = some (.int .i64 a0_0) := (blk_cell HK13.out 0).trans rfl
  have x1 : w3.cell? ⟨g1, 1, none⟩ = some (.int .i64 a0_1) := (blk_cell HK13.out 1).trans rfl
  have x2 : w3.cell? ⟨g1, 2, none⟩ = some (.slice A0_2 l0_2.length c0_2) := (blk_cell HK13.out 2).trans rfl
  have x3 : w3.cell? ⟨g1, 3, none⟩ = some (.int .i64 a0_3) := (blk_cell HK13.out 3).trans rfl
  have y0 : w3.cell? ⟨g3, 0, none⟩ = some (.int .i64 0) := (blk_cell HK3.out 0).trans rfl
  have y1 : w3.cell? ⟨g3, 1, none⟩ = some (.int .i64 0) := (blk_cell HK3.out 1).trans rfl
  have y2 : w3.cell? ⟨g3, 2, none⟩ = some (.slice A r1.length c) := (blk_cell HK3.out 2).trans rfl
  have y3 : w3.cell? ⟨g3, 3, none⟩ = some (.int .i64 r2) := (blk_cell HK3.out 3).trans rfl
  by_cases e0 : a0_0 = 0
  · have hr := H.out
    rw [if_pos e0] at hr
    obtain rfl := Option.some.inj hr
    have q0 : (a0_0 == 0) = true := by simp [e0]
    clear e0 hr
    go_wp2_with fail
    go_ret
    have hV : Kd.V k26 26 (w3.alloc (.cells #[.int .i64 0, .int .i64 0, .slice A r1.length c, .int .i64 r2] 26)) w.heap.size (fun k_ => P0_2_ k_ ∨ w.heap.size ≤ k_) (.slice (some ⟨w3.heap.size, 0, none⟩) 1 1) [⟨0, 0, ⟨r1, r2⟩⟩] := by
      refine V_of_cells (g := w3.heap.size) (xs := [⟨0, 0, ⟨r1, r2⟩⟩]) (cap := 1) (blk_new _ _) (Or.inr HB3.out.size) (Nat.le_refl _) (by simp only [List.length_cons, List.length_nil]; omega) rfl ?_
      intro j x hj
      have hj0 : j = 0 := by
        have := (List.getElem?_eq_some_iff.1 hj).1
        simpa using this
      subst hj0
      simp at hj
      subst hj
      exact ⟨A, c, rfl, rfl, rfl, rfl, HLess.out.1, Kd.F_alloc HLess.out.2 _⟩
    exact ⟨_, rfl, hV, HB3.out.alloc HB3.out.size _⟩
  · by_cases e1 : a0_0 = 1
    · have hr := H.out
      rw [if_neg e0, if_pos e1] at hr
      obtain rfl := Option.some.inj hr
      have q0 : (a0_0 == 0) = false := by simp [e0]
      have q1 : (a0_0 == 1) = true := by simp [e1]
      clear e0 e1 hr
      go_wp2_with fail
      go_ret
      have hV : Kd.V k26 26 (w3.alloc (.cells #[.int .i64 0, .int .i64 0, .slice A0_2 l0_2.length c0_2, .int .i64 (wrap64 (a0_3 - 1)), .int .i64 0, .int .i64 0, .slice A r1.length c, .int .i64 r2] 26)) w.heap.size (fun k_ => P0_2_ k_ ∨ w.heap.size ≤ k_) (.slice (some ⟨w3.heap.size, 0, none⟩) 2 2) [⟨0, 0, ⟨l0_2, wrap64 (a0_3 - 1)⟩⟩, ⟨0, 0, ⟨r1, r2⟩⟩] := by
        refine V_of_cells (g := w3.heap.size) (xs := [⟨0, 0, ⟨l0_2, wrap64 (a0_3 - 1)⟩⟩, ⟨0, 0, ⟨r1, r2⟩⟩]) (cap := 2) (blk_new _ _) (Or.inr HB3.out.size) (Nat.le_refl _) (by simp only [List.length_cons, List.length_nil]; omega) rfl ?_
        intro j x hj
        have hj0 : j = 0 ∨ j = 1 := by
          have := (List.getElem?_eq_some_iff.1 hj).1
          simp at this
          omega
        rcases hj0 with rfl | rfl
        · simp at hj
          subst hj
          exact ⟨A0_2, c0_2, rfl, rfl, rfl, rfl, HCap.out, Kd.F_alloc HArg.out _⟩
        · simp at hj
          subst hj
          exact ⟨A, c, rfl, rfl, rfl, rfl, HLess.out.1, Kd.F_alloc HLess.out.2 _⟩
      exact ⟨_, rfl, hV, HB3.out.alloc HB3.out.size _⟩
    · have hr := H.out
      rw [if_neg e0, if_neg e1] at hr
      split at hr
      case isFalse => cases hr
      rename_i hm
      obtain rfl := Option.some.inj hr
      have q0 : (a0_0 == 0) = false := by simp [e0]
      have q1 : (a0_0 == 1) = false := by simp [e1]
      have HM := Aside0.mk hm
      clear e0 e1 hr hm y0 y1 y2 y3
      go_wp2_with fail
      clear x0 x1 x2 x3 q0 q1 HLess HK3 H HOp
      have HBz := Aside0.mk (Below.refl w3.heap.size w3)
      go_loopg [4, 5] 1001 (fun kk vv iv wr => ∃ q : Nat, kk + q = 1001 ∧ q ≤ (a0_1 - 1).toNat ∧ iv = .int .i64 ((q : Int) + 1) ∧ Below w3.heap.size w3 wr ∧ wr.ownsRow w3.heap.size 26 4 vv q (othersCells A0_2 l0_2.length c0_2 a0_1 a0_3 q))
      case atStart => exact ⟨0, rfl, Nat.zero_le _, rfl, HBz.out, own_nil _ _ _ _⟩
      case round =>
        obtain ⟨q, hq, hqm, rfl, hbw, hown⟩ := hrel
        have hm1000 := HM.out
        have hqb : (q : Int) ≤ 1000 := by omega
        have HQ := Aside0.mk (And.intro hq hqm)
        have HBw := Aside0.mk hbw
        have HO := Aside0.mk hown
        have k1 := blk_below HK13.out hbw
        have x0 : wr.cell? ⟨g1, 0, none⟩ = some (.int .i64 a0_0) := (blk_cell k1 0).trans rfl
        have x1 : wr.cell? ⟨g1, 1, none⟩ = some (.int .i64 a0_1) := (blk_cell k1 1).trans rfl
        have x2 : wr.cell? ⟨g1, 2, none⟩ = some (.slice A0_2 l0_2.length c0_2) := (blk_cell k1 2).trans rfl
        have x3 : wr.cell? ⟨g1, 3, none⟩ = some (.int .i64 a0_3) := (blk_cell k1 3).trans rfl
        clear hq hqm hbw hown k1
        by_cases hlt : (q : Int) + 1 < a0_1
        · have hltd : decide ((q : Int) + 1 < a0_1) = true := decide_eq_true hlt
          obtain ⟨i26, hi26, hz26, hs26, hb26⟩ := info_parts info26
          obtain ⟨wl, hwl⟩ : ∃ wl, wl = wr.alloc (.cells #[.int .i64 2, .int .i64 a0_1, .slice A0_2 l0_2.length c0_2, .int .i64 (wrap64 (a0_3 - ((q : Int) + 1)))] 26) := ⟨_, rfl⟩
          have hbl : Below wr.heap.size wr wl := by rw [hwl]; exact below_alloc (Below.refl _ _) _
          have hkl : wl.heap[wr.heap.size]? = some (.cells #[.int .i64 2, .int .i64 a0_1, .slice A0_2 l0_2.length c0_2, .int .i64 (wrap64 (a0_3 - ((q : Int) + 1)))] 26 (0, 0)) := by rw [hwl]; exact blk_new _ _
          have HWL := Aside0.mk hwl
          have HKL := Aside0.mk hkl
          have HOl := Aside0.mk (pw_own_below HO.out hbl)
          have HBl := Aside0.mk (below_then HBw.out HBw.out.size hbl)
          have HQb := Aside0.mk hqb
          clear hwl hbl hkl
          go_wp2_with ((with_reducible refine gate_dst (N := 49) rfl ?_); rw [← HWL.out]; refine wpList_append_own wl rfl (.tmp 35) (.tmp 48) 36 rfl w3.heap.size 26 i26 (.agg #[.int .i64 0, .int .i64 0, .slice none 0 0, .int .i64 0]) 4 48 Try.underlying36 hi26 hz26 hs26 hb26 rfl (by decide) _ q (othersCells A0_2 l0_2.length c0_2 a0_1 a0_3 q) rfl HOl.out ⟨wr.heap.size, 0, none⟩ 1 1 [.int .i64 2, .int .i64 a0_1, .slice A0_2 l0_2.length c0_2, .int .i64 (wrap64 (a0_3 - ((q : Int) + 1)))] rfl rfl ?c1 ?c2 ?c3 ?c4 ?c5 ?_; (case c1 => intro j u hj; rw [add_plain, blk_cell HKL.out]; simpa using hj); (case c2 => intro u hu; simp at hu; rcases hu with rfl | rfl | rfl | rfl <;> rfl); (case c3 => have := HQb.out; simp only [maxLen]; omega); (case c4 => have := HQb.out; omega); (case c5 => exact HBl.out.size); intro vl wg ho' hg' _; have HG := Aside0.mk hg'; have HO' := Aside0.mk ho'; clear ho' hg')
          go_roundg (gk - 1)
          case measure => have := HQ.out; omega
          case rel => exact ⟨q + 1, by have := HQ.out; omega, by have := HQ.out; omega, by go_num, HBl.out.grown HG.out HBl.out.size (fun k hk => own_base HOl.out k hk), HO'.out⟩
        · have hltd : decide ((q : Int) + 1 < a0_1) = false := decide_eq_false hlt
          have HQe : Aside0 (q = (a0_1 - 1).toNat) := ⟨by have := HQ.out; omega⟩
          clear hlt
          go_wp2_with fail
          go_ret
          rw [← HQe.out]
          refine ⟨_, rfl, V_of_own HO.out (by simp) (fun k hk => Or.inr (Nat.le_trans HB3.out.size hk)) (fun j x hj => ?_), below_then HB3.out HB3.out.size HBw.out⟩
          rw [List.getElem?_map, Option.map_eq_some_iff] at hj
          obtain ⟨p, hp, rfl⟩ := hj
          obtain ⟨hpl, hpe⟩ := List.getElem?_eq_some_iff.1 hp
          simp at hpl hpe
          subst hpe
          obtain ⟨o0, o1, o2, o3⟩ := othersCells_get A0_2 l0_2.length c0_2 a0_1 a0_3 q j hpl
          exact ⟨A0_2, c0_2, o0, o1, o2, o3, HCap.out, Kd.F_below HArg.out HBw.out⟩
end Go.Proofs.Ytcakhbhjdpplcaa.Man
