/- Contracts of slices.Delete (one element taken out) and slices.Insert at []int, for rows of the call's own of at most 12 and 24 elements. -/
import Derived.Test.YtmafphfajgoojaaDelete
import Derived.Test.YtmafphfajgoojaaInsert
namespace Go.Proofs.Ytmafphfajgoojaa.Man
open Go.RowKit Go.Lib Go.Proofs.Ytmafphfajgoojaa Go.Proofs.YtmafphfajgoojaaW.PrintWords Go.Proofs.YtmafphfajgoojaaW.PrintLast Go.Proofs.YtmafphfajgoojaaW.PrintMore
set_option linter.unusedVariables false
set_option linter.unusedSimpArgs false
def slices_Delete.f (l : List Int) (i j : Int) : Option (List Int) := if 0 ≤ i ∧ j = i + 1 ∧ i < l.length ∧ l.length ≤ 12 then some (l.eraseIdx i.toNat) else none
theorem slices_Delete.calls (P0_ : Nat → Prop) (u9000_ : Value) (l0 : List Int) (a1 a2 : Int) (r : List Int) (w0 w : World) (hB : Below w0.heap.size w0 w) (ho0 : Kd.R (Kd.int .i64) 3 w w0.heap.size P0_ u9000_ l0) (h : slices_Delete.f l0 a1 a2 = some r) :
    Calls Try.prog 54 #[u9000_, .int .i64 a1, .int .i64 a2] w fun e w' => ∃ v0_ : Value, e = .returned (v0_) ∧ Kd.R (Kd.int .i64) 3 w' w0.heap.size (fun k_ => P0_ k_ ∨ w.heap.size ≤ k_) v0_ r ∧ Below w0.heap.size w0 w' ∧ Kept w w' (fun k_ => P0_ k_) := by
  unfold slices_Delete.f at h
  split at h
  case isFalse => cases h
  rename_i hc
  obtain ⟨c1, rfl, c3, c4⟩ := hc
  obtain rfl := Option.some.inj h
  obtain ⟨g, c, rfl⟩ : ∃ g c, u9000_ = .slice (some ⟨g, 0, none⟩) l0.length c := by
    rcases (Kd.own_of_R ho0).2 with ⟨_, h0⟩ | ⟨g, cap, cur, rfl, _⟩
    · omega
    · exact ⟨g, cap, rfl⟩
  obtain ⟨i, rfl⟩ : ∃ i : Nat, a1 = (i : Int) := ⟨a1.toNat, by omega⟩
  have hd := delete_calls g c i l0 P0_ w0 w w0.heap.size (by omega) c4 ho0 hB hB.size
  refine hd.mono ?_
  rintro e w' ⟨he, h1, h2, h3⟩
  exact ⟨_, he, Kd.R_mono (by rw [Int.toNat_natCast]; exact h1) (fun k hk => .inl hk), h2, h3.mono (fun k hk => by rw [hk]; exact ho0.1 g rfl)⟩
/-- What a row of cells becomes. -/
theorem heap_setCells (g : Nat) (T : TypeId) : ∀ (vs : List Value) (o : Nat) (W : World) (cur : Array Value), W.heap[g]? = some (.cells cur T (0, 0)) → o + vs.length ≤ cur.size →
    ∃ cur', (W.setCells g o vs).heap[g]? = some (.cells cur' T (0, 0)) ∧ cur'.size = cur.size ∧ cur'.toList = cur.toList.take o ++ vs ++ cur.toList.drop (o + vs.length)
  | [], o, W, cur, h, hl => ⟨cur, h, rfl, by simp⟩
  | v :: vs, o, W, cur, h, hl => by
    simp only [List.length_cons] at hl
    obtain ⟨cur', h1, h2, h3⟩ := heap_setCells g T vs (o + 1) (W.setCell ⟨g, o, none⟩ v) (cur.setIfInBounds o v) (blk_put h o v rfl) (by simp; omega)
    refine ⟨cur', h1, by simpa using h2, ?_⟩
    rw [h3, Array.toList_setIfInBounds]
    have ho : o < cur.toList.length := by simp; omega
    rw [List.take_set, List.drop_set_of_lt (by omega), List.take_succ_eq_append_getElem ho, List.set_append_right _ _ (by simp; omega)]
    simp [Nat.min_eq_left (Nat.le_of_lt (show o < cur.size by omega)), Nat.add_assoc, Nat.add_comm 1]
theorem below_setCells {base : Nat} {w0 : World} (g : Nat) (hg : base ≤ g) : ∀ (vs : List Value) (o : Nat) (W : World), Below base w0 W → Below base w0 (W.setCells g o vs)
  | [], _, _, h => h
  | v :: vs, o, W, h => below_setCells g hg vs (o + 1) _ (h.trans (Below.setCell (Below.refl _ _) hg _))
theorem kept_setCells {w : World} {S : Nat → Prop} (g : Nat) (hg : S g ∨ w.heap.size ≤ g) : ∀ (vs : List Value) (o : Nat) (W : World), Kept w W S → Kept w (W.setCells g o vs) S
  | [], _, _, h => h
  | v :: vs, o, W, h => kept_setCells g hg vs (o + 1) _ (h.setCell hg _)
theorem size_setCells (g : Nat) : ∀ (vs : List Value) (o : Nat) (W : World), (W.setCells g o vs).heap.size = W.heap.size
  | [], _, _ => rfl
  | v :: vs, o, W => by rw [World.setCells, size_setCells g vs]; simp [World.setCell]
theorem R_of_block {W : World} {g n c : Nat} {cur : Array Value} {base : Nat} {ok : Nat → Prop} {xs : List Int} (h : W.heap[g]? = some (.cells cur 3 (0, 0))) (hb : base ≤ g) (hok : ok g) (hnc : n ≤ c) (hc : c ≤ maxLen) (hs : cur.size = c) (hn : n = xs.length) (hx : cur.toList.take n = xs.map (Value.int .i64)) :
    (Kd.int .i64).R 3 W base ok (.slice (some ⟨g, 0, none⟩) n c) xs := by
  refine Kd.R_of_own ⟨by simp [encs], .inr ⟨g, c, cur, by rw [← hn], hb, h, by omega, hc, by omega, ?_⟩⟩ (fun k hk => ?_)
  · rw [Nat.mul_one, ← hn, hx]; rfl
  · have : g = k := by simpa [Value.ownBlock] using hk
    rw [← this]; exact hok
theorem block_of_R {W : World} {g n c : Nat} {base : Nat} {ok : Nat → Prop} {xs : List Int} (h : (Kd.int .i64).R 3 W base ok (.slice (some ⟨g, 0, none⟩) n c) xs) : ∃ cur, W.heap[g]? = some (.cells cur 3 (0, 0)) ∧ base ≤ g ∧ ok g ∧ n = xs.length ∧ n ≤ c ∧ c ≤ maxLen ∧ cur.size = c ∧ cur.toList.take n = xs.map (Value.int .i64) := by
  have hg := h.1 g rfl
  rcases (Kd.own_of_R h).2 with ⟨hv, _⟩ | ⟨g', cap, cur, hv, hb, hh, h5, hcm, hcs, htake⟩
  · cases hv
  · injection hv with ha hn hc
    injection ha with ha
    injection ha with ha
    subst ha; subst hc; subst hn
    exact ⟨cur, hh, hb, hg, rfl, h5, hcm, by omega, by simpa [encs] using htake⟩
def slices_Insert.f (l : List Int) (i : Int) (v : List Int) : Option (List Int) := if 0 ≤ i ∧ i ≤ l.length ∧ l.length + v.length ≤ 24 then some (l.take i.toNat ++ v ++ l.drop i.toNat) else none
theorem cell_of_take {cur : Array Value} {W : World} {g n : Nat} {xs : List Int} (h : W.heap[g]? = some (.cells cur 3 (0, 0))) (hn : n = xs.length) (hx : cur.toList.take n = xs.map (Value.int .i64)) (j : Nat) (v : Value) (hj : (xs.map (Value.int .i64))[j]? = some v) : W.cell? ⟨g, j, none⟩ = some v := by
  rw [blk_cell h, ← hj, ← hx, List.getElem?_take]
  have hl : j < (xs.map (Value.int .i64)).length := (List.getElem?_eq_some_iff.1 hj).1
  rw [List.length_map] at hl
  rw [if_pos (by omega)]
  simp
theorem one_ints (xs : List Int) : ∀ v ∈ xs.map (Value.int .i64), v.oneCell' = true := by
  intro v hv
  obtain ⟨x, _, rfl⟩ := List.mem_map.1 hv
  rfl
set_option maxHeartbeats 1000000 in
theorem insert_none (A : Option Addr) (n c i : Nat) (v : Value) (hv : ∃ B d, v = .slice B 0 d) (w : World) (hi : i ≤ n) (hn : A = none → n = 0) (hc : n ≤ c) (hA : ∀ a, A = some a → ∃ g, a = ⟨g, 0, none⟩) (hc63 : c ≤ 9223372036854775807) :
    Calls Try.prog 56 #[.slice A n c, .int .i64 i, v] w fun e w' => e = .returned (.slice A n c) ∧ w' = w := by
  obtain ⟨B, d, rfl⟩ := hv
  cases A with
  | none =>
    obtain rfl := hn rfl
    obtain rfl : i = 0 := by omega
    go_enter Try.func56, Try.ntmps56
    go_wp2
    all_goals (go_ret; exact ⟨rfl, rfl⟩)
  | some a =>
    obtain ⟨g, rfl⟩ := hA a rfl
    go_enter Try.func56, Try.ntmps56
    go_wp2
    all_goals (go_ret; exact ⟨rfl, rfl⟩)
set_option maxHeartbeats 4000000 in
theorem insert_end (v1 : Value) (xs ys : List Int) (v2 : Value) (P0 P2 : Nat → Prop) (w0 w : World) (hB : Below w0.heap.size w0 w) (hR : (Kd.int .i64).R 3 w w0.heap.size P0 v1 xs) (hR2 : (Kd.int .i64).R 3 w w0.heap.size P2 v2 ys) (hm : 0 < ys.length) (hl : xs.length + ys.length ≤ 24) :
    Calls Try.prog 56 #[v1, .int .i64 (xs.length : Int), v2] w fun e w' => ∃ v, e = .returned v ∧ (Kd.int .i64).R 3 w' w0.heap.size (fun k => P0 k ∨ w.heap.size ≤ k) v (xs ++ ys) ∧ Below w0.heap.size w0 w' ∧ Kept w w' (fun k => P0 k) := by
  obtain ⟨A, c, rfl⟩ := Kd.R_slice hR
  obtain ⟨A2, c2, rfl⟩ := Kd.R_slice hR2
  have hr2 := (Kd.R_reads' hR2).2.2
  obtain ⟨h11, h12, h13⟩ := Kd.R_reads' hR
  have HR := Aside0.mk (Kd.R_mono (ok' := fun k => P0 k ∨ w.heap.size ≤ k) hR (fun k hk => .inl hk))
  have HR0 := Aside0.mk hR
  have HR2 := Aside0.mk hr2
  have HB := Aside0.mk hB
  have hz : ¬ ((ys.length : Int) = 0) := by omega
  have hz' : ((ys.length : Int) == 0) = false := beq_eq_false_iff_ne.2 hz
  have hq : ((xs.length : Int) == (xs.length : Int)) = true := by simp
  have HL := Aside0.mk hl
  have HM := Aside0.mk hm
  have hcap : c ≤ 9223372036854775807 := by
    rcases (Kd.own_of_R hR).2 with ⟨hv, _⟩ | ⟨g', cap, cur, hv, hb, hh, h5, hcm, hcs, htake⟩
    · injection hv with _ _ hc
      omega
    · injection hv with _ _ hc
      subst hc
      unfold maxLen at hcm
      omega
  clear hR hR2 hr2 hB hl hm h11 h13
  have fin : ∀ (A : Option Addr) (v1 : Value) (W : World), True := fun _ _ _ => trivial
  cases A with
  | none =>
    obtain ⟨e0, c0⟩ : xs = [] ∧ c = 0 := by
      rcases (Kd.own_of_R HR0.out).2 with ⟨hv, h0⟩ | ⟨g', cap, cur, hv, _⟩
      · injection hv with _ _ hc
        exact ⟨List.length_eq_zero_iff.1 h0, hc⟩
      · cases hv
    subst e0; subst c0
    go_enter Try.func56, Try.ntmps56
    go_wp2_with ((with_reducible refine gate_dst (N := 25) rfl ?_); refine Kd.R_append_rows (Kd.int .i64) (w0 := w0) w0.heap.size rfl (.tmp 23) (.tmp 24) 22 3 (.int .i64 0) 8 rfl Try.underlying22 info3 rfl (by decide) (by omega) (.slice none ([] : List Int).length 0) [] ys _ _ _ (fun k => P0 k ∨ w.heap.size ≤ k) (fun _ => False) rfl rfl HR.out HR2.out (fun _ _ h => h) (fun _ h => h.elim) (fun _ hk => .inr hk) HB.out HB.out.size (by have := HL.out; simp; simp at this; omega) ?_; intro v2 w2 ho hb hg hat; have HO2 := Aside0.mk ho; have HB2 := Aside0.mk hb; have HG2 := Aside0.mk hg; clear ho hb hg hat)
    go_ret
    exact ⟨_, rfl, HO2.out, HB2.out, Kept.of_grown HG2.out (Kept.refl _ _) (fun k hk => by simp [Value.ownBlock] at hk)⟩
  | some ad =>
    obtain ⟨g, rfl⟩ : ∃ g, ad = ⟨g, 0, none⟩ := by
      rcases (Kd.own_of_R HR0.out).2 with ⟨hv, _⟩ | ⟨g', cap, cur, hv, _⟩
      · cases hv
      · injection hv with ha _ _
        injection ha with ha
        exact ⟨g', ha⟩
    have hg := HR0.out.1 g rfl
    have HG := Aside0.mk hg
    clear hg
    go_enter Try.func56, Try.ntmps56
    go_wp2_with ((with_reducible refine gate_dst (N := 25) rfl ?_); refine Kd.R_append_rows (Kd.int .i64) (w0 := w0) w0.heap.size rfl (.tmp 23) (.tmp 24) 22 3 (.int .i64 0) 8 rfl Try.underlying22 info3 rfl (by decide) (by omega) (.slice (some ⟨g, 0, none⟩) xs.length c) xs ys _ _ _ (fun k => P0 k ∨ w.heap.size ≤ k) (fun _ => False) rfl rfl HR.out HR2.out (fun _ _ h => h) (fun _ h => h.elim) (fun _ hk => .inr hk) HB.out HB.out.size (by have := HL.out; omega) ?_; intro v2 w2 ho hb hg hat; have HO2 := Aside0.mk ho; have HB2 := Aside0.mk hb; have HG2 := Aside0.mk hg; clear ho hb hg hat)
    all_goals
      go_ret
      exact ⟨_, rfl, HO2.out, HB2.out, Kept.of_grown HG2.out (Kept.refl _ _) (fun k hk => .inl (by
        have e_ : g = k := by simpa [Value.ownBlock] using hk
        exact e_ ▸ HG.out))⟩
/-- A row of cells after a stretch of it has been written. -/
theorem insert_calls_in (g n c i g2 m c2 : Nat) (xs ys : List Int) (P0 P2 : Nat → Prop) (w0 w : World) (hB : Below w0.heap.size w0 w) (hR : (Kd.int .i64).R 3 w w0.heap.size P0 (.slice (some ⟨g, 0, none⟩) n c) xs) (hR2 : (Kd.int .i64).R 3 w w0.heap.size P2 (.slice (some ⟨g2, 0, none⟩) m c2) ys) (hd : ∀ k, P0 k → ¬ P2 k) (hm : 0 < m) (hi : i < n) (hl : n + m ≤ 24) :
    Calls Try.prog 56 #[.slice (some ⟨g, 0, none⟩) n c, .int .i64 (i : Int), .slice (some ⟨g2, 0, none⟩) m c2] w fun e w' => ∃ v, e = .returned v ∧ (Kd.int .i64).R 3 w' w0.heap.size (fun k => P0 k ∨ w.heap.size ≤ k) v (xs.take i ++ ys ++ xs.drop i) ∧ Below w0.heap.size w0 w' ∧ Kept w w' (fun k => P0 k) := by
  obtain ⟨cur, k1, k2, k3, k4, k5, k6, k7, k8⟩ := block_of_R hR
  obtain ⟨cur2, l1, l2, l3, l4, l5, l6, l7, l8⟩ := block_of_R hR2
  have hne : g2 ≠ g := fun e => hd g k3 (e ▸ l3)
  have hc63 : c ≤ 9223372036854775807 := by unfold maxLen at k6; omega
  have hcl : (xs.map (Value.int .i64)).length = n := by simp [k4]
  have hvl : (ys.map (Value.int .i64)).length = m := by simp [l4]
  have hdl : ((xs.map (Value.int .i64)).drop i).length = n - i := by rw [List.length_drop, hcl]
  by_cases hroom : n + m ≤ c
  · refine (insert_shift g n c i g2 m c2 (xs.map (Value.int .i64)) (ys.map (Value.int .i64)) w hi hm hroom hc63 hne hcl hvl
      (fun j v hj => by rw [Nat.zero_add]; exact cell_of_take k1 k4 k8 j v hj) (fun j hj => by rw [Nat.zero_add, blk_cell k1, Array.getElem?_eq_getElem (by omega)]; rfl) (fun j hj => blk_frozen k1 _)
      (fun j v hj => by rw [Nat.zero_add]; exact cell_of_take l1 l4 l8 j v hj) (one_ints xs) (one_ints ys) 3 3 c2 c (by simp [World.shape?, l1, l7]) (by simp [World.shape?, k1, k7]) (by omega) (blk_frozen l1 _) (blk_frozen l1 _)).mono ?_
    rintro e w' ⟨he, rfl⟩
    obtain ⟨cur', m1, m2, m3⟩ := heap_setCells g 3 ((xs.map (Value.int .i64)).drop i) (0 + (i + m)) w.drew cur (blk_drew k1) (by rw [hdl]; omega)
    obtain ⟨cur'', q1, q2, q3⟩ := heap_setCells g 3 (ys.map (Value.int .i64)) (0 + i) _ cur' m1 (by rw [hvl]; omega)
    refine ⟨_, he, R_of_block q1 k2 (.inl k3) hroom k6 (by omega) (by simp; omega) ?_, ?_, ?_⟩
    · have hti : cur.toList.take i = (xs.map (Value.int .i64)).take i := by
        rw [← k8, List.take_take, Nat.min_eq_left (by omega)]
      have hsz : cur.toList.length = c := by simpa using k7
      rw [q3, m3]
      simp only [Nat.zero_add, hdl, hvl]
      have e1 : (cur.toList.take (i + m) ++ (xs.map (Value.int .i64)).drop i ++ cur.toList.drop (i + m + (n - i))).take i = (xs.map (Value.int .i64)).take i := by
        rw [List.append_assoc, List.take_append_of_le_length (by rw [List.length_take]; omega), List.take_take, Nat.min_eq_left (by omega), hti]
      have e2 : (cur.toList.take (i + m) ++ (xs.map (Value.int .i64)).drop i ++ cur.toList.drop (i + m + (n - i))).drop (i + m) = (xs.map (Value.int .i64)).drop i ++ cur.toList.drop (i + m + (n - i)) := by
        rw [List.append_assoc, List.drop_append_of_le_length (by rw [List.length_take]; omega), List.drop_eq_nil_of_le (by rw [List.length_take]; omega), List.nil_append]
      rw [e1, e2, ← List.append_assoc, List.take_append_of_le_length (by simp; omega), List.take_of_length_le (by simp; omega)]
      simp
    · exact below_setCells g k2 _ _ _ (below_setCells g k2 _ _ _ hB.drew)
    · exact kept_setCells g (.inl k3) _ _ _ (kept_setCells g (.inl k3) _ _ _ ((Kept.refl w _).drew))
  · refine (insert_grow g n c i g2 m c2 (xs.map (Value.int .i64)) (ys.map (Value.int .i64)) w hi hm k5 (by omega) (by omega) hcl hvl
      (fun j v hj => cell_of_take k1 k4 k8 j v hj) (fun j v hj => cell_of_take l1 l4 l8 j v hj) (one_ints xs) (one_ints ys)).mono ?_
    rintro e w' ⟨he, rfl⟩
    obtain ⟨G, hG⟩ : ∃ G, G = grownCap w (n + m) c 3 := ⟨_, rfl⟩
    have hGn : n + m ≤ G := by rw [hG]; exact grownCap_ge w _ _ _
    have hGm : G ≤ maxLen := by rw [hG]; exact grownCap_le_maxLen w (n + m) c 3 (by unfold maxLen; omega)
    rw [← hG] at he ⊢
    obtain ⟨ROW, hROW⟩ : ∃ ROW : Array Value, ROW = ((xs.map (Value.int .i64)).take i).toArray ++ Builtin.zeroCells (Value.int .i64 0).cells (n + m - i) ++ Builtin.zeroCells (Value.int .i64 0).cells (G - (n + m)) := ⟨_, rfl⟩
    have hRs : ROW.size = G := by
      rw [hROW]
      simp [Builtin.zeroCells, Value.cells]
      omega
    have hRt : ROW.toList.take i = (xs.map (Value.int .i64)).take i := by
      rw [hROW]
      simp only [Array.toList_append, List.append_assoc]
      rw [List.take_append_of_le_length (by simp; omega)]
      show List.take i (List.take i _) = _
      rw [List.take_take, Nat.min_self]
    rw [← hROW]
    have b0 : ((w.alloc (.cells ROW 3)).drew).heap[w.heap.size]? = some (.cells ROW 3 (0, 0)) := blk_new w _
    obtain ⟨cur', m1, m2, m3⟩ := heap_setCells w.heap.size 3 (ys.map (Value.int .i64)) i _ ROW b0 (by rw [hvl]; omega)
    obtain ⟨cur'', q1, q2, q3⟩ := heap_setCells w.heap.size 3 ((xs.map (Value.int .i64)).drop i) (i + m) _ cur' (blk_drew m1) (by rw [hdl]; omega)
    refine ⟨_, he, R_of_block q1 hB.size (.inr (Nat.le_refl _)) hGn hGm (by omega) (by simp; omega) ?_, ?_, ?_⟩
    · rw [q3, m3]
      simp only [hdl, hvl]
      have hRl : ROW.toList.length = G := by simpa using hRs
      have e1 : (ROW.toList.take i ++ ys.map (Value.int .i64) ++ ROW.toList.drop (i + m)).take (i + m) = (xs.map (Value.int .i64)).take i ++ ys.map (Value.int .i64) := by
        rw [List.take_append_of_le_length (by simp; omega), List.take_of_length_le (by simp; omega), hRt]
      rw [e1, List.take_append_of_le_length (by simp; omega), List.take_of_length_le (by simp; omega)]
      simp
    · exact below_setCells _ hB.size _ _ _ (below_setCells _ hB.size _ _ _ (hB.alloc hB.size _).drew).drew
    · exact kept_setCells _ (.inr (Nat.le_refl _)) _ _ _ (kept_setCells _ (.inr (Nat.le_refl _)) _ _ _ ((Kept.refl w _).alloc _).drew).drew
theorem slices_Insert.calls (P0_ : Nat → Prop) (u9000_ : Value) (l0 : List Int) (a1 : Int) (P2_ : Nat → Prop) (u9001_ : Value) (l2 : List Int) (r : List Int) (w0 w : World) (hB : Below w0.heap.size w0 w) (ho0 : Kd.R (Kd.int .i64) 3 w w0.heap.size P0_ u9000_ l0) (hp0_2 : ∀ k_, P0_ k_ → ¬ P2_ k_) (ho2 : Kd.R (Kd.int .i64) 3 w w0.heap.size P2_ u9001_ l2) (hp2_0 : ∀ k_, P2_ k_ → ¬ P0_ k_) (h : slices_Insert.f l0 a1 l2 = some r) :
    Calls Try.prog 56 #[u9000_, .int .i64 a1, u9001_] w fun e w' => ∃ v0_ : Value, e = .returned (v0_) ∧ Kd.R (Kd.int .i64) 3 w' w0.heap.size (fun k_ => (P0_ k_ ∨ P2_ k_) ∨ w.heap.size ≤ k_) v0_ r ∧ Below w0.heap.size w0 w' ∧ Kept w w' (fun k_ => P0_ k_ ∨ P2_ k_) := by
  unfold slices_Insert.f at h
  split at h
  case isFalse => cases h
  rename_i hc
  obtain ⟨c1, c2, c3⟩ := hc
  obtain rfl := Option.some.inj h
  obtain ⟨i, rfl⟩ : ∃ i : Nat, a1 = (i : Int) := ⟨a1.toNat, by omega⟩
  have hi : i ≤ l0.length := by omega
  rw [Int.toNat_natCast]
  obtain ⟨A, c, rfl⟩ := Kd.R_slice ho0
  obtain ⟨A2, d, rfl⟩ := Kd.R_slice ho2
  by_cases hm : l2.length = 0
  · have e2 : l2 = [] := List.length_eq_zero_iff.1 hm
    subst e2
    have hform := (Kd.own_of_R ho0).2
    refine (insert_none A l0.length c i _ ⟨A2, d, rfl⟩ w hi ?_ ?_ ?_ ?_).mono ?_
    · intro hA
      rcases hform with ⟨_, h0⟩ | ⟨g, cap, cur, hv, _⟩
      · exact h0
      · rw [hA] at hv; cases hv
    · exact (Kd.R_reads' ho0).2.1
    · intro a hA
      rcases hform with ⟨hv, _⟩ | ⟨g, cap, cur, hv, _⟩
      · rw [hA] at hv; cases hv
      · rw [hA] at hv
        injection hv with ha _ _
        injection ha with ha
        exact ⟨g, ha⟩
    · rcases hform with ⟨hv, h0⟩ | ⟨g, cap, cur, hv, hb, hh, h5, hcm, hcs, htake⟩
      · injection hv with _ _ hc
        omega
      · injection hv with _ _ hc
        subst hc
        unfold maxLen at hcm
        omega
    · rintro e w' ⟨he, rfl⟩
      refine ⟨_, he, ?_, hB, Kept.refl _ _⟩
      rw [List.append_nil, List.take_append_drop]
      exact Kd.R_mono ho0 (fun k hk => .inl (.inl hk))
  · by_cases hn : i = l0.length
    · subst hn
      refine (insert_end _ l0 l2 _ P0_ P2_ w0 w hB ho0 ho2 (by omega) c3).mono ?_
      rintro e w' ⟨v, he, h1, h2, h3⟩
      refine ⟨v, he, ?_, h2, h3.mono (fun k hk => .inl hk)⟩
      rw [List.take_length, List.drop_length, List.append_nil]
      exact Kd.R_mono h1 (fun k hk => hk.elim (fun h => .inl (.inl h)) .inr)
    · obtain ⟨g, rfl⟩ : ∃ g, A = some ⟨g, 0, none⟩ := by
        rcases (Kd.own_of_R ho0).2 with ⟨_, h0⟩ | ⟨g, cap, cur, hv, _⟩
        · omega
        · injection hv with ha _ _
          exact ⟨g, ha⟩
      obtain ⟨g2, rfl⟩ : ∃ g, A2 = some ⟨g, 0, none⟩ := by
        rcases (Kd.own_of_R ho2).2 with ⟨_, h0⟩ | ⟨g, cap, cur, hv, _⟩
        · omega
        · injection hv with ha _ _
          exact ⟨g, ha⟩
      refine (insert_calls_in g l0.length c i g2 l2.length d l0 l2 P0_ P2_ w0 w hB ho0 ho2 hp0_2 (by omega) (by omega) c3).mono ?_
      rintro e w' ⟨v, he, h1, h2, h3⟩
      exact ⟨v, he, Kd.R_mono h1 (fun k hk => hk.elim (fun h => .inl (.inl h)) .inr), h2, h3.mono (fun k hk => .inl hk)⟩
end Go.Proofs.Ytmafphfajgoojaa.Man
