/- The walk of CondOwn: it returns what the comparison with the copy returns. -/
import Derived.Test.YtcakhbhjdpplcaaGn1
import Derived.Test.YtcakhbhjdpplcaaNr2
import Derived.Test.YtcakhbhjdpplcaaHo1
import Derived.Test.YtcakhbhjdpplcaaAa7
import Derived.Test.YtcakhbhjdpplcaaCc1
import Derived.Test.YtcakhbhjdpplcaaMx1
import Derived.Deep.DeepCutAuto
import Derived.Deep.CutRange
import Derived.Deep.LoopGhost
import Derived.Outline
namespace Go.Proofs.Ytcakhbhjdpplcaa.Oc
open Go.RowKit Go.Proofs.Ytcakhbhjdpplcaa Go.Proofs.YtcakhbhjdpplcaaW.PrintWords Go.Proofs.YtcakhbhjdpplcaaW.PrintLast Go.Proofs.YtcakhbhjdpplcaaW.PrintMore Go.Proofs.Ytcakhbhjdpplcaa.Kc
attribute [local go_sem] max2_int min2_int max_two min_two
set_option linter.unusedVariables false
set_option linter.unusedSimpArgs false
theorem info3 : (Try.prog.info? 3).map (fun i => (i.zero, i.size, i.bytes)) = some (some (.int .i64 0), 1, 8) := by kernel_rfl
theorem box_cells {W : World} {g : Nat} {a b c d : Value} {t : TypeId} (h : W.heap[g]? = some (.cells #[a, b, c, d] t (0, 0))) : W.cell? ⟨g, 0, none⟩ = some a ∧ W.cell? ⟨g, 1, none⟩ = some b ∧ W.cell? ⟨g, 2, none⟩ = some c ∧ W.cell? ⟨g, 3, none⟩ = some d :=
  ⟨(blk_cell h 0).trans rfl, (blk_cell h 1).trans rfl, (blk_cell h 2).trans rfl, (blk_cell h 3).trans rfl⟩
/-- A variable that holds a condition. -/
structure Bx (W : World) (g : Nat) (kd md : Int) (A : Option Addr) (c : Nat) (l : List Int) (a : Int) : Prop where
  blk : W.heap[g]? = some (.cells #[.int .i64 kd, .int .i64 md, .slice A l.length c, .int .i64 a] 26 (0, 0))
  cap : l.length ≤ c
  rd : Kd.C (Kd.int .i64) W A l.length l
theorem Bx.step {W W' : World} {g : Nat} {kd md : Int} {A : Option Addr} {c : Nat} {l : List Int} {a : Int} (h : Bx W g kd md A c l a) (hb : Below W.heap.size W W') : Bx W' g kd md A c l a := ⟨blk_below h.blk hb, h.cap, Kd.C_below h.rd hb⟩
/-- A row of numbers that may be written over: in new memory (from block B on), or empty. -/
def Sm (B : Nat) (W : World) (A : Option Addr) (m c : Nat) : Prop := m ≤ c ∧ c ≤ 9223372036854775807 ∧ (0 < m → ∃ g cur, A = some ⟨g, 0, none⟩ ∧ B ≤ g ∧ W.heap[g]? = some (.cells cur 3 (0, 0)) ∧ m ≤ cur.size)
theorem sm_of_R {W : World} {base B : Nat} {ok : Nat → Prop} {A : Option Addr} {m c : Nat} {xs : List Int} (h : (Kd.int .i64).R 3 W base ok (.slice A m c) xs) (hB : B ≤ base) : Sm B W A m c := by
  rcases (Kd.own_of_R h).2 with ⟨hv, _⟩ | ⟨g, cap, cur, hv, hb, hh, h5, hcm, hcs, _⟩
  · injection hv with _ hm hc
    exact ⟨by omega, by omega, fun h0 => by omega⟩
  · injection hv with ha hm hc
    subst ha; subst hm; subst hc
    unfold maxLen at hcm
    exact ⟨h5, by omega, fun _ => ⟨g, cur, rfl, Nat.le_trans hB hb, hh, by omega⟩⟩
theorem Sm.step {B : Nat} {W W' : World} {A : Option Addr} {m c : Nat} (h : Sm B W A m c) (hb : Below W.heap.size W W') : Sm B W' A m c :=
  ⟨h.1, h.2.1, fun h0 => by
    obtain ⟨g, cur, e, hB, hh, hs⟩ := h.2.2 h0
    exact ⟨g, cur, e, hB, blk_below hh hb, hs⟩⟩
theorem Sm.set {B : Nat} {W : World} {A : Option Addr} {m c g j : Nat} {cur : Array Value} {u : Value} (h : Sm B W A m c) (hg : W.heap[g]? = some (.cells cur 3 (0, 0))) : Sm B (W.setCell ⟨g, j, none⟩ u) A m c :=
  ⟨h.1, h.2.1, fun h0 => by
    obtain ⟨g', cur', e, hB, hh, hs⟩ := h.2.2 h0
    by_cases hgg : g' = g
    · subst hgg
      exact ⟨g', _, e, hB, blk_put hh j u rfl, by simpa using hs⟩
    · exact ⟨g', cur', e, hB, (Below.heap_setCell W ⟨g, j, none⟩ u g' hgg).trans hh, hs⟩⟩
theorem Sm.grow {B : Nat} {W W' : World} {A : Option Addr} {m c : Nat} {row : Option Nat} (h : Sm B W A m c) (hg : W.grownBy W' row) (hne : ∀ g cur, W.heap[g]? = some (.cells cur 3 (0, 0)) → some g ≠ row) : Sm B W' A m c :=
  ⟨h.1, h.2.1, fun h0 => by
    obtain ⟨g, cur, e, hB, hh, hs⟩ := h.2.2 h0
    exact ⟨g, cur, e, hB, blk_grown hh hg (hne g cur hh), hs⟩⟩
/-- Element j of the cells is a condition whose row may be written over. -/
def Es (B : Nat) (W : World) (inner : List Value) (j : Nat) : Prop := ∃ x0 x1 K A m c, inner[j * 4]? = some (.int .i64 x0) ∧ inner[j * 4 + 1]? = some (.int .i64 x1) ∧ inner[j * 4 + 2]? = some (.slice A m c) ∧ inner[j * 4 + 3]? = some (.int .i64 K) ∧ Sm B W A m c
/-- The list of the results: each of its rows may be written over. -/
def LR (B : Nat) (W : World) (v : Value) (n : Nat) : Prop := ∃ inner, W.ownsRow B 26 4 v n inner ∧ ∀ j, j < n → Es B W inner j
theorem LR.step {B : Nat} {W W' : World} {v : Value} {n : Nat} (h : LR B W v n) (hb : Below W.heap.size W W') : LR B W' v n := by
  obtain ⟨inner, ho, hr⟩ := h
  exact ⟨inner, pw_own_below ho hb, fun j hj => by
    obtain ⟨x0, x1, K, A, m, c, h0, h1, h2, h3, h4⟩ := hr j hj
    exact ⟨x0, x1, K, A, m, c, h0, h1, h2, h3, h4.step hb⟩⟩
theorem LR.set {B : Nat} {W : World} {v : Value} {n g j : Nat} {cur : Array Value} {u : Value} (h : LR B W v n) (hg : W.heap[g]? = some (.cells cur 3 (0, 0))) : LR B (W.setCell ⟨g, j, none⟩ u) v n := by
  obtain ⟨inner, ho, hr⟩ := h
  refine ⟨inner, own_move ho (fun k hk => ?_), fun j hj => ?_⟩
  · obtain ⟨cells, hc⟩ := own_typed ho k hk
    exact Below.heap_setCell W ⟨g, j, none⟩ u k (blk_ne hc hg (by decide))
  · obtain ⟨x0, x1, K, A, m, c, h0, h1, h2, h3, h4⟩ := hr j hj
    exact ⟨x0, x1, K, A, m, c, h0, h1, h2, h3, h4.set hg⟩
theorem lr_of_S {W : World} {base B : Nat} {ok : Nat → Prop} {v : Value} {xs : List S26} (h : Kd.S k26 26 W base ok v xs) (hB : B ≤ base) : LR B W v xs.length := by
  obtain ⟨_, inner, ho, hr⟩ := Kd.S_R h
  have ho' : W.ownsRow base 26 4 v xs.length inner := ho
  refine ⟨inner, own_weaken ho' hB, fun j hj => ?_⟩
  have hM := hr.2 j xs[j] (List.getElem?_eq_getElem hj)
  obtain ⟨v2, hcs, hR⟩ := k26_openM hM
  obtain ⟨A, c, rfl⟩ := Kd.R_slice hR
  have hcs' : (inner.drop (j * 4)).take 4 = [.int .i64 (xs[j]).f0, .int .i64 (xs[j]).f1, .slice A (xs[j]).f2.f0.length c, .int .i64 (xs[j]).f2.f1] := hcs
  have hget : ∀ i u, i < 4 → ((inner.drop (j * 4)).take 4)[i]? = some u → inner[j * 4 + i]? = some u := by
    intro i u hi hu
    rw [List.getElem?_take, if_pos hi, List.getElem?_drop] at hu
    exact hu
  rw [hcs'] at hget
  exact ⟨_, _, _, A, _, c, hget 0 _ (by omega) rfl, hget 1 _ (by omega) rfl, hget 2 _ (by omega) rfl, hget 3 _ (by omega) rfl, sm_of_R hR hB⟩
theorem ne_row {B : Nat} {W : World} {v : Value} {n : Nat} {inner : List Value} (ho : W.ownsRow B 26 4 v n inner) : ∀ g cur, W.heap[g]? = some (.cells cur 3 (0, 0)) → some g ≠ v.ownBlock := by
  intro g cur hg he
  obtain ⟨cells, hc⟩ := own_typed ho g he.symm
  exact blk_ne hc hg (by decide) rfl
/-- One result more. -/
theorem LR.app {B : Nat} {W W' : World} {v v' : Value} {n : Nat} {inner : List Value} (ho : W.ownsRow B 26 4 v n inner) (hr : ∀ j, j < n → Es B W inner j)
    {x0 x1 K : Int} {A : Option Addr} {m c : Nat} (hs : Sm B W A m c) (ho' : W'.ownsRow B 26 4 v' (n + 1) (inner ++ [.int .i64 x0, .int .i64 x1, .slice A m c, .int .i64 K])) (hg : W.grownBy W' v.ownBlock) : LR B W' v' (n + 1) := by
  have hne := ne_row ho
  have hl : inner.length = n * 4 := ho.1
  refine ⟨_, ho', fun j hj => ?_⟩
  by_cases hjn : j < n
  · obtain ⟨y0, y1, L, A', m', c', h0, h1, h2, h3, h4⟩ := hr j hjn
    exact ⟨y0, y1, L, A', m', c', by rw [List.getElem?_append_left (by omega)]; exact h0, by rw [List.getElem?_append_left (by omega)]; exact h1, by rw [List.getElem?_append_left (by omega)]; exact h2, by rw [List.getElem?_append_left (by omega)]; exact h3, h4.grow hg hne⟩
  · obtain rfl : j = n := by omega
    have q0 : j * 4 - inner.length = 0 := by omega
    have q1 : j * 4 + 1 - inner.length = 1 := by omega
    have q2 : j * 4 + 2 - inner.length = 2 := by omega
    have q3 : j * 4 + 3 - inner.length = 3 := by omega
    refine ⟨x0, x1, K, A, m, c, ?_, ?_, ?_, ?_, hs.grow hg hne⟩
    · rw [List.getElem?_append_right (by omega), q0]; rfl
    · rw [List.getElem?_append_right (by omega), q1]; rfl
    · rw [List.getElem?_append_right (by omega), q2]; rfl
    · rw [List.getElem?_append_right (by omega), q3]; rfl
def T1 : Bool × List (List Nat × List Nat) := (true, [([], []), ([0], [0]), ([], []), ([2], [2]), ([], []), ([4], [4]), ([], []), ([6], [6]), ([5, 7], [5, 7]), ([1, 3, 8], [1, 3, 8]), ([], []), ([10, 9, 8, 0, 1, 2, 3, 4, 5, 6, 7, 8, 9, 10], [9, 10])])
def B1 : List Nat := [0, 1, 0, 4, 0, 16, 0, 64, 240, 511, 0, 2047]
theorem tab1 : rtab .any (opsOf Try.f9 1) = T1 := by kernel_rfl
theorem bits1 : waitsOk T1.2 B1 = true := by kernel_rfl
def T5 : Bool × List (List Nat × List Nat) := (true, [([], []), ([], []), ([1], [1]), ([2], [2]), ([3], [3]), ([4], [4]), ([5, 5], [5]), ([0, 6], [0, 6])])
def B5 : List Nat := [0, 0, 2, 6, 14, 30, 62, 127]
theorem tab5 : rtab .any (opsOf Try.f9 5) = T5 := by kernel_rfl
theorem bits5 : waitsOk T5.2 B5 = true := by kernel_rfl
set_option maxHeartbeats 16000000 in
set_option maxRecDepth 100000 in
theorem own_walk (k : Nat) (kd md : Int) (A0 : Option Addr) (c0 : Nat) (l0 : List Int) (a0 : Int) (w : World)
    (h0 : Kd.C (Kd.int .i64) w A0 l0.length l0) (hc0 : l0.length ≤ c0) (haw : Nr.headlandlaw03_awake.f k = some true) (hS : Aa.headlandref03_Same.f k kd md l0 a0 kd md l0 a0 = some true)
    (hMix : Mx.headlandref02_Mix.f k 1 l0 a0 0 l0 a0 = some (l0, a0)) (hV : ∃ b, Aa.cond_Valid.f k kd md l0 a0 = some b) (hH : ∃ r1 r2, Ho.cond_Holds.f k kd md l0 a0 (List.replicate (min l0.length 100) 0) = some (r1, r2))
    (hC : ∃ r1 r2, Cc.cond_Compare.f k kd md l0 a0 kd md l0 a0 = some (r1, r2)) (hN : ∃ r1 r2 r3 r4 r5 r6, Nr.cond_Normal.f k kd md l0 a0 = some (r1, r2, r3, r4, r5, r6)) (hG : ∃ xs f, Gn.cond_Negate.f k kd md l0 a0 = some (xs, f) ∧ xs.length ≤ 1000) :
    Calls Try.prog 9 #[.agg #[.int .i64 kd, .int .i64 md, .slice A0 l0.length c0, .int .i64 a0]] w fun e w' => e = .returned (.bool true) ∧ Below w.heap.size w w' := by
  have H0 := Aside0.mk h0
  have HC0 := Aside0.mk hc0
  have HW := Aside0.mk (And.intro haw hS)
  have HMix := Aside0.mk hMix
  have HF := Aside0.mk (And.intro hV (And.intro hH (And.intro hC (And.intro hN hG))))
  clear h0 hc0 haw hS hMix hV hH hC hN hG
  go_enter Try.func9, Try.ntmps9
  go_upto_region 1 with fail
  obtain ⟨w1, hw1⟩ : ∃ w1, w1 = w.alloc (.cells #[.int .i64 kd, .int .i64 md, .slice A0 l0.length c0, .int .i64 a0] 26) := ⟨_, rfl⟩
  obtain ⟨g1, hg1⟩ : ∃ g1, g1 = w.heap.size := ⟨_, rfl⟩
  rw [← hw1, ← hg1]
  have hb1 : Below w.heap.size w w1 := by rw [hw1]; exact below_alloc (Below.refl _ _) _
  have k1 : w1.heap[g1]? = some (.cells #[.int .i64 kd, .int .i64 md, .slice A0 l0.length c0, .int .i64 a0] 26 (0, 0)) := by rw [hw1, hg1]; exact blk_new _ _
  have HB1 := Aside0.mk hb1
  have HX : Aside0 (Bx w1 g1 kd md A0 c0 l0 a0) := ⟨⟨k1, HC0.out, Kd.C_below H0.out hb1⟩⟩
  clear hw1 hg1 hb1 k1 H0 HC0
  go_cut [3] from 12 to 21 (fun vx wx => ∃ gN Ax cx, vx = .pointer (some ⟨gN, 0, none⟩) ∧ Bx wx gN kd md Ax cx l0 a0 ∧ Below w1.heap.size w1 wx)
  case first =>
    refine start_ (n := 12) (S := fun w' => w'.cell? ⟨g1, 0, none⟩ = some (.int .i64 kd) ∧ w'.cell? ⟨g1, 1, none⟩ = some (.int .i64 md) ∧ w'.cell? ⟨g1, 2, none⟩ = some (.slice A0 l0.length c0) ∧ w'.cell? ⟨g1, 3, none⟩ = some (.int .i64 a0)) (ds := []) #[false, false, false, false, false, false, false, false, false, false, false, false] (by kernel_rfl) rfl rfl ⟨(blk_cell HX.out.blk 0).trans rfl, (blk_cell HX.out.blk 1).trans rfl, (blk_cell HX.out.blk 2).trans rfl, (blk_cell HX.out.blk 3).trans rfl⟩ (fun hHeld => ?_); refine with_tabW tab1 bits1 (fun HT_ HW_ => ?_)
    obtain ⟨ws, hws⟩ : ∃ ws, ws = w1.drew := ⟨_, rfl⟩
    rw [← hws] at hHeld ⊢
    have hbs : Below w1.heap.size w1 ws := by rw [hws]; exact below_drew (Below.refl _ _)
    have HBs := Aside0.mk hbs
    have BK := Aside0.mk (HX.out.step hbs)
    have BK0 := BK
    have HB := Aside0.mk (Below.refl ws.heap.size ws)
    clear hws hbs
    refine pure_ (i := 0) (N := some 12) (v := ?_) (a' := ?_) #[true, false, false, false, false, false, false, false, false, false, false, false] rfl rfl (any_of HT_.out (by kernel_rfl)) (fun _ _ _ h => h) (Or.inl ⟨by rfl, ?_⟩) ?_ ?_
    rotate_left
    · intro w'
      go_simp
      with_reducible rfl
    rotate_left
    · simp only [Act.put, List.setIfInBounds_toArray, List.set_cons_zero, List.set_cons_succ, i64_w, i32_w]
      rfl
    refine pure_ (i := 2) (N := some 14) (v := ?_) (a' := ?_) #[true, false, true, false, false, false, false, false, false, false, false, false] rfl rfl (any_of HT_.out (by kernel_rfl)) (fun _ _ _ h => h) (Or.inl ⟨by rfl, ?_⟩) ?_ ?_
    rotate_left
    · intro w'
      go_simp
      with_reducible rfl
    rotate_left
    · simp only [Act.put, List.setIfInBounds_toArray, List.set_cons_zero, List.set_cons_succ, i64_w, i32_w]
      rfl
    refine pure_ (i := 4) (N := some 16) (v := ?_) (a' := ?_) #[true, false, true, false, true, false, false, false, false, false, false, false] rfl rfl (any_of HT_.out (by kernel_rfl)) (fun _ _ _ h => h) (Or.inl ⟨by rfl, ?_⟩) ?_ ?_
    rotate_left
    · intro w'
      go_simp
      with_reducible rfl
    rotate_left
    · simp only [Act.put, List.setIfInBounds_toArray, List.set_cons_zero, List.set_cons_succ, i64_w, i32_w]
      rfl
    refine pure_ (i := 6) (N := some 18) (v := ?_) (a' := ?_) #[true, false, true, false, true, false, true, false, false, false, false, false] rfl rfl (any_of HT_.out (by kernel_rfl)) (fun _ _ _ h => h) (Or.inl ⟨by rfl, ?_⟩) ?_ ?_
    rotate_left
    · intro w'
      go_simp
      with_reducible rfl
    rotate_left
    · simp only [Act.put, List.setIfInBounds_toArray, List.set_cons_zero, List.set_cons_succ, i64_w, i32_w]
      rfl
    refine take_ (i := 1) (N := some 13) (v := ?_) (a' := ?_) #[true, true, true, false, true, false, true, false, false, false, false, false] rfl rfl (take_ofW HT_.out HW_.out (by kernel_rfl)) (fun _ _ _ h => h) (Or.inl ⟨by rfl, ?_⟩) hHeld ?_ ?_
    rotate_left
    · rintro w' ⟨s0, s1, s2, s3⟩
      go_simp
      with_reducible rfl
    rotate_left
    · simp only [Act.put, List.setIfInBounds_toArray, List.set_cons_zero, List.set_cons_succ, i64_w, i32_w]
      rfl
    refine take_ (i := 3) (N := some 15) (v := ?_) (a' := ?_) #[true, true, true, true, true, false, true, false, false, false, false, false] rfl rfl (take_ofW HT_.out HW_.out (by kernel_rfl)) (fun _ _ _ h => h) (Or.inl ⟨by rfl, ?_⟩) hHeld ?_ ?_
    rotate_left
    · rintro w' ⟨s0, s1, s2, s3⟩
      go_simp
      with_reducible rfl
    rotate_left
    · simp only [Act.put, List.setIfInBounds_toArray, List.set_cons_zero, List.set_cons_succ, i64_w, i32_w]
      rfl
    refine take_ (i := 5) (N := some 17) (v := ?_) (a' := ?_) #[true, true, true, true, true, true, true, false, false, false, false, false] rfl rfl (take_ofW HT_.out HW_.out (by kernel_rfl)) (fun _ _ _ h => h) (Or.inl ⟨by rfl, ?_⟩) hHeld ?_ ?_
    rotate_left
    · rintro w' ⟨s0, s1, s2, s3⟩
      go_simp
      with_reducible rfl
    rotate_left
    · simp only [Act.put, List.setIfInBounds_toArray, List.set_cons_zero, List.set_cons_succ, i64_w, i32_w]
      rfl
    refine take_ (i := 7) (N := some 19) (v := ?_) (a' := ?_) #[true, true, true, true, true, true, true, true, false, false, false, false] rfl rfl (take_ofW HT_.out HW_.out (by kernel_rfl)) (fun _ _ _ h => h) (Or.inl ⟨by rfl, ?_⟩) hHeld ?_ ?_
    rotate_left
    · rintro w' ⟨s0, s1, s2, s3⟩
      go_simp
      with_reducible rfl
    rotate_left
    · simp only [Act.put, List.setIfInBounds_toArray, List.set_cons_zero, List.set_cons_succ, i64_w, i32_w]
      rfl
    refine two_ (i := 8) (j := 10) (Ni := some 20) (Nj := some 3) #[true, true, true, true, true, true, true, true, true, false, false, false] #[true, true, true, true, true, true, true, true, false, false, true, false] rfl rfl rfl rfl (two_of HT_.out (by kernel_rfl)) (by decide) (by decide) (fun K hK => ?_) (fun K hK => ?_)
    · skip
      refine goes_ Try.func23 (by kernel_rfl) rfl #[.int .i64 1, .agg #[.slice A0 l0.length c0, .int .i64 a0], .int .i64 0, .agg #[.slice A0 l0.length c0, .int .i64 a0]] (by rfl) rfl rfl (by (try simp only [List.map_toArray, List.map_cons, List.map_nil]); first | done | rfl) ?_
      with_reducible refine (Mx.headlandref02_Mix.calls k 1 A0 c0 l0 a0 0 A0 c0 l0 a0 l0 a0 _ BK.out.rd BK.out.cap BK.out.rd BK.out.cap HMix.out).mono ?_
      rintro e wn ⟨v, rfl, hR, hb⟩
      obtain ⟨Ax, cx, rfl⟩ := Kd.R_slice hR
      have HO := Aside0.mk hR
      have n_ := Aside0.mk (BK.out.step hb)
      have m_ := Aside0.mk (below_step HB.out hb)
      clear HB BK hb hR
      have HB := m_
      have BK := n_
      clear n_ m_
      refine ⟨_, rfl, ?_⟩
      refine hK.out _ _ ⟨(blk_cell BK.out.blk 0).trans rfl, (blk_cell BK.out.blk 1).trans rfl, (blk_cell BK.out.blk 2).trans rfl, (blk_cell BK.out.blk 3).trans rfl⟩ (fun hHeld => ?_)
      clear hK K
      refine norm_ (a' := ?_) ?_ ?_
      rotate_left
      · show Act.put _ (some 20) _ = _
        simp only [Act.put, List.setIfInBounds_toArray, List.set_cons_zero, List.set_cons_succ, i64_w, i32_w]
        rfl
      refine pure_ (i := 9) (N := some 21) (v := ?_) (a' := ?_) #[true, true, true, true, true, true, true, true, true, true, false, false] rfl rfl (any_of HT_.out (by kernel_rfl)) (fun _ _ _ h => h) (Or.inl ⟨by rfl, ?_⟩) ?_ ?_
      rotate_left
      · intro w'
        go_simp
        with_reducible rfl
      rotate_left
      · simp only [Act.put, List.setIfInBounds_toArray, List.set_cons_zero, List.set_cons_succ, i64_w, i32_w]
        rfl
      refine one_ (i := 10) (N := some 3) #[true, true, true, true, true, true, true, true, true, true, true, false] rfl rfl (one_of HT_.out (by kernel_rfl)) (by decide) (fun K hK => ?_)
      refine box_step ?hg (N := 3) ?hd (cs := #[.int .i64 0, .int .i64 0, .slice none 0 0, .int .i64 0]) (t := 26) ?hr ?_; (case hd => rfl); (case hg => rfl); (case hr => first | (go_simp; done) | (go_simp; rfl))
      intro gN hgN wn hbox hb
      have BN := Aside0.mk hbox
      have HGN : Aside0 (ws.heap.size ≤ gN) := ⟨by rw [hgN]; exact HB.out.size⟩
      have n_ := Aside0.mk (BK.out.step hb)
      have m_ := Aside0.mk (below_step HB.out hb)
      have HO' := Aside0.mk (Kd.R_below HO.out hb)
      clear HO
      have HO := HO'
      clear HO'
      clear HB BK
      have HB := m_
      have BK := n_
      clear n_ m_ hb hbox hgN
      refine hK.out _ _ ⟨(blk_cell BK.out.blk 0).trans rfl, (blk_cell BK.out.blk 1).trans rfl, (blk_cell BK.out.blk 2).trans rfl, (blk_cell BK.out.blk 3).trans rfl⟩ (fun hHeld => ?_)
      clear hK K
      refine norm_ (a' := ?_) ?_ ?_
      rotate_left
      · show Act.put _ (some 3) _ = _
        simp only [Act.put, List.setIfInBounds_toArray, List.set_cons_zero, List.set_cons_succ, i64_w, i32_w]
        rfl
      refine one_ (i := 11) (N := none) #[true, true, true, true, true, true, true, true, true, true, true, true] rfl rfl (one_of HT_.out (by kernel_rfl)) (by decide) (fun K hK => ?_)
      have hs0 : wn.cell? ⟨gN, 0, none⟩ = some (.int .i64 0) := (blk_cell BN.out 0).trans rfl
      have hs1 : wn.cell? ⟨gN, 1, none⟩ = some (.int .i64 0) := (blk_cell BN.out 1).trans rfl
      have hs2 : wn.cell? ⟨gN, 2, none⟩ = some (.slice none 0 0) := (blk_cell BN.out 2).trans rfl
      have hs3 : wn.cell? ⟨gN, 3, none⟩ = some (.int .i64 0) := (blk_cell BN.out 3).trans rfl
      have hf0 := blk_frozen BN.out 0
      have hf1 := blk_frozen BN.out 1
      have hf2 := blk_frozen BN.out 2
      have hf3 := blk_frozen BN.out 3
      refine skip_ (w1 := ?_) (by rfl) rfl ?_ ?_
      rotate_left
      · go_simp
        rfl
      clear hs0 hs1 hs2 hs3 hf0 hf1 hf2 hf3
      have hbn : Below ws.heap.size ws ((((wn.setCell ⟨gN, 0, none⟩ (.int .i64 kd)).setCell ⟨gN, 1, none⟩ (.int .i64 md)).setCell ⟨gN, 2, none⟩ (.slice Ax l0.length cx)).setCell ⟨gN, 3, none⟩ (.int .i64 a0)) := below_set (below_set (below_set (below_set HB.out HGN.out) HGN.out) HGN.out) HGN.out
      have hbk := BK0.out.step hbn
      have hR := HO.out
      have hrn := Kd.R_reads' (Kd.R_far (p := ⟨gN, 3, none⟩) (Kd.R_far (p := ⟨gN, 2, none⟩) (Kd.R_far (p := ⟨gN, 1, none⟩) (Kd.R_far (p := ⟨gN, 0, none⟩) (Kd.R_types hR BN.out (by decide)) (fun _ hk => hk.2) (.int .i64 kd)) (fun _ hk => hk.2) (.int .i64 md)) (fun _ hk => hk.2) (.slice Ax l0.length cx)) (fun _ hk => hk.2) (.int .i64 a0))
      have hnew : Bx ((((wn.setCell ⟨gN, 0, none⟩ (.int .i64 kd)).setCell ⟨gN, 1, none⟩ (.int .i64 md)).setCell ⟨gN, 2, none⟩ (.slice Ax l0.length cx)).setCell ⟨gN, 3, none⟩ (.int .i64 a0)) gN kd md Ax cx l0 a0 := ⟨blk_put (blk_put (blk_put (blk_put BN.out 0 (.int .i64 kd) rfl) 1 (.int .i64 md) rfl) 2 (.slice Ax l0.length cx) rfl) 3 (.int .i64 a0) rfl, hrn.2.1, hrn.2.2⟩
      have HN := Aside0.mk (And.intro hnew (below_then HBs.out HBs.out.size hbn))
      refine hK.out _ _ ⟨(blk_cell hbk.blk 0).trans rfl, (blk_cell hbk.blk 1).trans rfl, (blk_cell hbk.blk 2).trans rfl, (blk_cell hbk.blk 3).trans rfl⟩ (fun hHeld => ?_)
      clear hK K hbn hbk hrn hnew hHeld hR
      refine done_ (done_of HT_.out (by kernel_rfl)) ?_
      go_wp2_with fail
      go_meet
      case rel => exact ⟨gN, Ax, cx, rfl, HN.out.1, HN.out.2⟩
    · skip
      refine box_step ?hg (N := 3) ?hd (cs := #[.int .i64 0, .int .i64 0, .slice none 0 0, .int .i64 0]) (t := 26) ?hr ?_; (case hd => rfl); (case hg => rfl); (case hr => first | (go_simp; done) | (go_simp; rfl))
      intro gN hgN wn hbox hb
      have BN := Aside0.mk hbox
      have HGN : Aside0 (ws.heap.size ≤ gN) := ⟨by rw [hgN]; exact HB.out.size⟩
      have n_ := Aside0.mk (BK.out.step hb)
      have m_ := Aside0.mk (below_step HB.out hb)
      clear HB BK
      have HB := m_
      have BK := n_
      clear n_ m_ hb hbox hgN
      refine hK.out _ _ ⟨(blk_cell BK.out.blk 0).trans rfl, (blk_cell BK.out.blk 1).trans rfl, (blk_cell BK.out.blk 2).trans rfl, (blk_cell BK.out.blk 3).trans rfl⟩ (fun hHeld => ?_)
      clear hK K
      refine norm_ (a' := ?_) ?_ ?_
      rotate_left
      · show Act.put _ (some 3) _ = _
        simp only [Act.put, List.setIfInBounds_toArray, List.set_cons_zero, List.set_cons_succ, i64_w, i32_w]
        rfl
      refine one_ (i := 8) (N := some 20) #[true, true, true, true, true, true, true, true, true, false, true, false] rfl rfl (one_of HT_.out (by kernel_rfl)) (by decide) (fun K hK => ?_)
      refine goes_ Try.func23 (by kernel_rfl) rfl #[.int .i64 1, .agg #[.slice A0 l0.length c0, .int .i64 a0], .int .i64 0, .agg #[.slice A0 l0.length c0, .int .i64 a0]] (by rfl) rfl rfl (by (try simp only [List.map_toArray, List.map_cons, List.map_nil]); first | done | rfl) ?_
      with_reducible refine (Mx.headlandref02_Mix.calls k 1 A0 c0 l0 a0 0 A0 c0 l0 a0 l0 a0 _ BK.out.rd BK.out.cap BK.out.rd BK.out.cap HMix.out).mono ?_
      rintro e wn ⟨v, rfl, hR, hb⟩
      obtain ⟨Ax, cx, rfl⟩ := Kd.R_slice hR
      have HO := Aside0.mk hR
      have n_ := Aside0.mk (BK.out.step hb)
      have m_ := Aside0.mk (below_step HB.out hb)
      have BN' := Aside0.mk (blk_below BN.out hb)
      clear BN
      have BN := BN'
      clear BN'
      clear HB BK hb hR
      have HB := m_
      have BK := n_
      clear n_ m_
      refine ⟨_, rfl, ?_⟩
      refine hK.out _ _ ⟨(blk_cell BK.out.blk 0).trans rfl, (blk_cell BK.out.blk 1).trans rfl, (blk_cell BK.out.blk 2).trans rfl, (blk_cell BK.out.blk 3).trans rfl⟩ (fun hHeld => ?_)
      clear hK K
      refine norm_ (a' := ?_) ?_ ?_
      rotate_left
      · show Act.put _ (some 20) _ = _
        simp only [Act.put, List.setIfInBounds_toArray, List.set_cons_zero, List.set_cons_succ, i64_w, i32_w]
        rfl
      refine pure_ (i := 9) (N := some 21) (v := ?_) (a' := ?_) #[true, true, true, true, true, true, true, true, true, true, true, false] rfl rfl (any_of HT_.out (by kernel_rfl)) (fun _ _ _ h => h) (Or.inl ⟨by rfl, ?_⟩) ?_ ?_
      rotate_left
      · intro w'
        go_simp
        with_reducible rfl
      rotate_left
      · simp only [Act.put, List.setIfInBounds_toArray, List.set_cons_zero, List.set_cons_succ, i64_w, i32_w]
        rfl
      refine one_ (i := 11) (N := none) #[true, true, true, true, true, true, true, true, true, true, true, true] rfl rfl (one_of HT_.out (by kernel_rfl)) (by decide) (fun K hK => ?_)
      have hs0 : wn.cell? ⟨gN, 0, none⟩ = some (.int .i64 0) := (blk_cell BN.out 0).trans rfl
      have hs1 : wn.cell? ⟨gN, 1, none⟩ = some (.int .i64 0) := (blk_cell BN.out 1).trans rfl
      have hs2 : wn.cell? ⟨gN, 2, none⟩ = some (.slice none 0 0) := (blk_cell BN.out 2).trans rfl
      have hs3 : wn.cell? ⟨gN, 3, none⟩ = some (.int .i64 0) := (blk_cell BN.out 3).trans rfl
      have hf0 := blk_frozen BN.out 0
      have hf1 := blk_frozen BN.out 1
      have hf2 := blk_frozen BN.out 2
      have hf3 := blk_frozen BN.out 3
      refine skip_ (w1 := ?_) (by rfl) rfl ?_ ?_
      rotate_left
      · go_simp
        rfl
      clear hs0 hs1 hs2 hs3 hf0 hf1 hf2 hf3
      have hbn : Below ws.heap.size ws ((((wn.setCell ⟨gN, 0, none⟩ (.int .i64 kd)).setCell ⟨gN, 1, none⟩ (.int .i64 md)).setCell ⟨gN, 2, none⟩ (.slice Ax l0.length cx)).setCell ⟨gN, 3, none⟩ (.int .i64 a0)) := below_set (below_set (below_set (below_set HB.out HGN.out) HGN.out) HGN.out) HGN.out
      have hbk := BK0.out.step hbn
      have hR := HO.out
      have hrn := Kd.R_reads' (Kd.R_far (p := ⟨gN, 3, none⟩) (Kd.R_far (p := ⟨gN, 2, none⟩) (Kd.R_far (p := ⟨gN, 1, none⟩) (Kd.R_far (p := ⟨gN, 0, none⟩) (Kd.R_types hR BN.out (by decide)) (fun _ hk => hk.2) (.int .i64 kd)) (fun _ hk => hk.2) (.int .i64 md)) (fun _ hk => hk.2) (.slice Ax l0.length cx)) (fun _ hk => hk.2) (.int .i64 a0))
      have hnew : Bx ((((wn.setCell ⟨gN, 0, none⟩ (.int .i64 kd)).setCell ⟨gN, 1, none⟩ (.int .i64 md)).setCell ⟨gN, 2, none⟩ (.slice Ax l0.length cx)).setCell ⟨gN, 3, none⟩ (.int .i64 a0)) gN kd md Ax cx l0 a0 := ⟨blk_put (blk_put (blk_put (blk_put BN.out 0 (.int .i64 kd) rfl) 1 (.int .i64 md) rfl) 2 (.slice Ax l0.length cx) rfl) 3 (.int .i64 a0) rfl, hrn.2.1, hrn.2.2⟩
      have HN := Aside0.mk (And.intro hnew (below_then HBs.out HBs.out.size hbn))
      refine hK.out _ _ ⟨(blk_cell hbk.blk 0).trans rfl, (blk_cell hbk.blk 1).trans rfl, (blk_cell hbk.blk 2).trans rfl, (blk_cell hbk.blk 3).trans rfl⟩ (fun hHeld => ?_)
      clear hK K hbn hbk hrn hnew hHeld hR
      refine done_ (done_of HT_.out (by kernel_rfl)) ?_
      go_wp2_with fail
      go_meet
      case rel => exact ⟨gN, Ax, cx, rfl, HN.out.1, HN.out.2⟩
  case rest =>
    obtain ⟨gN, Ax, cx, rfl, hx, hb⟩ := hcut
    obtain ⟨w2, rfl⟩ : ∃ w_ : World, w_ = wc := ⟨_, rfl⟩
    have HY := Aside0.mk hx
    have HX1 := HX
    have HX := Aside0.mk (HX1.out.step hb)
    have HB2 := Aside0.mk (below_step HB1.out hb)
    clear HX1 HB1 hx hb
    obtain ⟨B, hB⟩ : ∃ B, B = w2.heap.size := ⟨_, rfl⟩
    have HBz : Aside0 (Below B w2 w2) := ⟨Below.refl _ _⟩
    have HBB := Aside0.mk hB
    clear hB
    go_wp2_with fail
    go_loopg [22] 2 (fun kq iq wr => ∃ q : Nat, q + kq = 2 ∧ iq = .int .i64 q ∧ Below B w2 wr)
    case atStart => exact ⟨0, rfl, rfl, HBz.out⟩
    case round =>
      obtain ⟨q, hq, rfl, hbw⟩ := hrel
      obtain ⟨kq, rfl⟩ : ∃ k_ : Nat, k_ = gk := ⟨_, rfl⟩
      have HQ := Aside0.mk hq
      have HXr := Aside0.mk (HX.out.step (by rw [HBB.out] at hbw; exact hbw))
      have HYr := Aside0.mk (HY.out.step (by rw [HBB.out] at hbw; exact hbw))
      have HBw := Aside0.mk hbw
      have HBs : Aside0 (B ≤ wr.heap.size) := ⟨by rw [HBB.out] at hbw ⊢; exact hbw.size⟩
      have hqb : (q : Int) ≤ 2 := by omega
      clear hq hbw
      by_cases hlt : q < 2
      · skip
        have HLT := Aside0.mk hlt
        have hltb : (q : Int) < 2 := by omega
        have hltd : decide ((q : Int) < 2) = true := decide_eq_true hltb
        clear hlt
        obtain ⟨bv, hbv⟩ := HF.out.1
        have HBv := Aside0.mk hbv
        clear hbv
        obtain ⟨x0, x1, x2, x3⟩ := box_cells HXr.out.blk
        go_wp2_with fail
        (with_reducible refine (Aa.cond_Valid.calls k kd md A0 c0 l0 a0 bv _ HXr.out.rd HXr.out.cap HBv.out).mono ?_)
        rintro e' wa ⟨rfl, hb⟩
        have m1_ := Aside0.mk (HXr.out.step hb)
        have m2_ := Aside0.mk (HYr.out.step hb)
        have m3_ : Aside0 (Below B w2 wa) := ⟨below_then HBw.out HBs.out hb⟩
        have m4_ : Aside0 (B ≤ wa.heap.size) := ⟨Nat.le_trans HBs.out (hb).size⟩
        clear HXr HYr HBw HBs
        have HXr := m1_
        have HYr := m2_
        have HBw := m3_
        have HBs := m4_
        clear m1_ m2_ m3_ m4_
        clear hb x0 x1 x2 x3 hltb hltd
        go_upto_region 5 with fail
        go_cut [] from 26 to 33 (fun wx => Below wa.heap.size wa wx)
        case first =>
          refine start_ (n := 8) (S := fun w' => w'.cell? ⟨g1, 0, none⟩ = some (.int .i64 kd) ∧ w'.cell? ⟨g1, 1, none⟩ = some (.int .i64 md) ∧ w'.cell? ⟨g1, 2, none⟩ = some (.slice A0 l0.length c0) ∧ w'.cell? ⟨g1, 3, none⟩ = some (.int .i64 a0)) (ds := []) #[false, false, false, false, false, false, false, false] (by kernel_rfl) rfl rfl ⟨(blk_cell HXr.out.blk 0).trans rfl, (blk_cell HXr.out.blk 1).trans rfl, (blk_cell HXr.out.blk 2).trans rfl, (blk_cell HXr.out.blk 3).trans rfl⟩ (fun hHeld => ?_); refine with_tabW tab5 bits5 (fun HT_ HW_ => ?_)
          obtain ⟨ws, hws⟩ : ∃ ws, ws = wa.drew := ⟨_, rfl⟩
          rw [← hws] at hHeld ⊢
          have hbs : Below wa.heap.size wa ws := by rw [hws]; exact below_drew (Below.refl _ _)
          have HBd := Aside0.mk hbs
          have BK := Aside0.mk (HXr.out.step hbs)
          clear hws hbs
          obtain ⟨n, hn⟩ : ∃ n : Nat, n = min l0.length 100 := ⟨_, rfl⟩
          have hmin : (if (100 : Int) < (l0.length : Int) then (100 : Int) else (l0.length : Int)) = (n : Int) := by rw [hn]; split <;> omega
          have HNn := Aside0.mk hn
          have hn100 : n ≤ 100 := by omega
          clear hn
          refine take_ (i := 0) (N := some 26) (v := ?_) (a' := ?_) #[true, false, false, false, false, false, false, false] rfl rfl (take_ofW HT_.out HW_.out (by kernel_rfl)) (fun _ _ _ h => h) (Or.inl ⟨by rfl, ?_⟩) hHeld ?_ ?_
          rotate_left
          · rintro w' ⟨s0, s1, s2, s3⟩
            go_simp
            with_reducible rfl
          rotate_left
          · simp only [Act.put, List.setIfInBounds_toArray, List.set_cons_zero, List.set_cons_succ, i64_w, i32_w]
            rfl
          refine pure_ (i := 1) (N := some 27) (v := ?_) (a' := ?_) #[true, true, false, false, false, false, false, false] rfl rfl (any_of HT_.out (by kernel_rfl)) (fun _ _ _ h => h) (Or.inl ⟨by rfl, ?_⟩) ?_ ?_
          rotate_left
          · intro w'
            go_simp
            with_reducible rfl
          rotate_left
          · simp only [Act.put, List.setIfInBounds_toArray, List.set_cons_zero, List.set_cons_succ, i64_w, i32_w]
            rfl
          refine pure_ (i := 2) (N := some 28) (v := ?_) (a' := ?_) #[true, true, true, false, false, false, false, false] rfl rfl (any_of HT_.out (by kernel_rfl)) (fun _ _ _ h => h) (Or.inl ⟨by rfl, ?_⟩) ?_ ?_
          rotate_left
          · intro w'
            go_simp
            with_reducible rfl
          rotate_left
          · simp only [Act.put, List.setIfInBounds_toArray, List.set_cons_zero, List.set_cons_succ, i64_w, i32_w]
            rfl
          refine take_ (i := 3) (N := some 29) (v := ?_) (a' := ?_) #[true, true, true, true, false, false, false, false] rfl rfl (take_ofW HT_.out HW_.out (by kernel_rfl)) (fun _ _ _ h => h) (Or.inl ⟨by rfl, ?_⟩) hHeld ?_ ?_
          rotate_left
          · rintro w' ⟨s0, s1, s2, s3⟩
            go_simp
            with_reducible rfl
          rotate_left
          · simp only [Act.put, List.setIfInBounds_toArray, List.set_cons_zero, List.set_cons_succ, i64_w, i32_w]
            rfl
          refine pure_ (i := 4) (N := some 30) (v := ?_) (a' := ?_) #[true, true, true, true, true, false, false, false] rfl rfl (any_of HT_.out (by kernel_rfl)) (fun _ _ _ h => h) (Or.inl ⟨by rfl, ?_⟩) ?_ ?_
          rotate_left
          · intro w'
            go_simp
            with_reducible rfl
          rotate_left
          · simp only [Act.put, List.setIfInBounds_toArray, List.set_cons_zero, List.set_cons_succ, i64_w, i32_w]
            rfl
          refine pure_ (i := 5) (N := some 31) (v := ?_) (a' := ?_) #[true, true, true, true, true, true, false, false] rfl rfl (any_of HT_.out (by kernel_rfl)) (fun _ _ _ h => h) (Or.inl ⟨by rfl, ?_⟩) ?_ ?_
          rotate_left
          · intro w'
            go_simp
            with_reducible rfl
          rotate_left
          · simp only [Act.put, List.setIfInBounds_toArray, List.set_cons_zero, List.set_cons_succ, i64_w, i32_w]
            rfl
          clear hmin
          refine one_ (i := 6) (N := some 32) #[true, true, true, true, true, true, true, false] rfl rfl (one_of HT_.out (by kernel_rfl)) (by decide) (fun K hK => ?_)
          refine Kd.R_make_step (Kd.int .i64) _ 3 (by rfl) (N := 32) rfl 22 _ _ rfl (n : Int) rfl rfl Try.underlying22 (.int .i64 0) 8 info3 rfl (by decide) (by omega) 0 (ok := fun _ => True) (okp := fun _ => True) rfl (fun _ hk => hk) trivial (by omega) (by omega) (Below.refl _ _) (Nat.le_refl _) ?_
          intro vz wz hz hb hgr hnew
          rw [Int.toNat_natCast] at hz
          obtain ⟨zs, hzs⟩ : ∃ zs : List Int, zs = List.replicate n 0 := ⟨_, rfl⟩
          rw [← hzs] at hz
          obtain ⟨Az, cz, rfl⟩ := Kd.R_slice hz
          have HZ := Aside0.mk (Kd.R_reads' hz).2
          have HZs := Aside0.mk hzs
          have m_ := Aside0.mk (BK.out.step hb)
          have n_ := Aside0.mk (below_step HBd.out hb)
          clear hz hb hgr hnew hzs BK HBd
          have BK := m_
          have HBd := n_
          clear m_ n_
          refine hK.out _ _ ⟨(blk_cell BK.out.blk 0).trans rfl, (blk_cell BK.out.blk 1).trans rfl, (blk_cell BK.out.blk 2).trans rfl, (blk_cell BK.out.blk 3).trans rfl⟩ (fun hHeld => ?_)
          clear hK K
          refine norm_ (a' := ?_) ?_ ?_
          rotate_left
          · show Act.put _ (some 32) _ = _
            simp only [Act.put, List.setIfInBounds_toArray, List.set_cons_zero, List.set_cons_succ, i64_w, i32_w]
            rfl
          refine one_ (i := 7) (N := some 33) #[true, true, true, true, true, true, true, true] rfl rfl (one_of HT_.out (by kernel_rfl)) (by decide) (fun K hK => ?_)
          obtain ⟨r1, r2, hh⟩ := HF.out.2.1
          rw [← HNn.out, ← HZs.out] at hh
          refine goes_ Try.func14 (by kernel_rfl) rfl #[.agg #[.int .i64 kd, .int .i64 md, .slice A0 l0.length c0, .int .i64 a0], .slice Az zs.length cz] (by rfl) rfl rfl (by (try simp only [List.map_toArray, List.map_cons, List.map_nil]); first | done | rfl) ?_
          with_reducible refine (Ho.cond_Holds.calls k kd md A0 c0 l0 a0 Az cz zs r1 r2 _ BK.out.rd BK.out.cap HZ.out.2 HZ.out.1 hh).mono ?_
          rintro e wn ⟨rfl, hb⟩
          have n_ := Aside0.mk (below_step HBd.out hb)
          have m_ := Aside0.mk (BK.out.step hb)
          clear hb hh
          refine ⟨_, rfl, ?_⟩
          refine hK.out _ _ ⟨(blk_cell m_.out.blk 0).trans rfl, (blk_cell m_.out.blk 1).trans rfl, (blk_cell m_.out.blk 2).trans rfl, (blk_cell m_.out.blk 3).trans rfl⟩ (fun hHeld => ?_)
          clear hK K
          refine norm_ (a' := ?_) ?_ ?_
          rotate_left
          · show Act.put _ (some 33) _ = _
            simp only [Act.put, List.setIfInBounds_toArray, List.set_cons_zero, List.set_cons_succ, i64_w, i32_w]
            rfl
          refine done_ (done_of HT_.out (by kernel_rfl)) ?_
          go_wp2_with fail
          go_meet
          case rel => exact n_.out
        case rest =>
          obtain ⟨wb, rfl⟩ : ∃ w_ : World, w_ = wc := ⟨_, rfl⟩
          have m1_ := Aside0.mk (HXr.out.step hcut)
          have m2_ := Aside0.mk (HYr.out.step hcut)
          have m3_ : Aside0 (Below B w2 wb) := ⟨below_then HBw.out HBs.out hcut⟩
          have m4_ : Aside0 (B ≤ wb.heap.size) := ⟨Nat.le_trans HBs.out (hcut).size⟩
          clear HXr HYr HBw HBs
          have HXr := m1_
          have HYr := m2_
          have HBw := m3_
          have HBs := m4_
          clear m1_ m2_ m3_ m4_
          clear hcut
          obtain ⟨x0, x1, x2, x3⟩ := box_cells HXr.out.blk
          obtain ⟨y0, y1, y2, y3⟩ := box_cells HYr.out.blk
          obtain ⟨r1, r2, hh⟩ := HF.out.2.2.1
          have HCm := Aside0.mk hh
          clear hh
          go_wp2_with fail
          (with_reducible refine (Cc.cond_Compare.calls k kd md A0 c0 l0 a0 kd md Ax cx l0 a0 r1 r2 _ HXr.out.rd HXr.out.cap HYr.out.rd HYr.out.cap HCm.out).mono ?_)
          rintro e' wd ⟨rfl, hb⟩
          have m1_ := Aside0.mk (HXr.out.step hb)
          have m2_ := Aside0.mk (HYr.out.step hb)
          have m3_ : Aside0 (Below B w2 wd) := ⟨below_then HBw.out HBs.out hb⟩
          have m4_ : Aside0 (B ≤ wd.heap.size) := ⟨Nat.le_trans HBs.out (hb).size⟩
          clear HXr HYr HBw HBs
          have HXr := m1_
          have HYr := m2_
          have HBw := m3_
          have HBs := m4_
          clear m1_ m2_ m3_ m4_
          clear hb x0 x1 x2 x3 y0 y1 y2 y3 HCm
          obtain ⟨x0, x1, x2, x3⟩ := box_cells HXr.out.blk
          obtain ⟨p1, p2, p3, p4, p5, p6, hh⟩ := HF.out.2.2.2.1
          have HNm := Aside0.mk hh
          clear hh
          go_wp2_with fail
          (with_reducible refine (Nr.cond_Normal.calls k kd md A0 c0 l0 a0 p1 p2 p3 p4 p5 p6 _ HXr.out.rd HXr.out.cap HNm.out).mono ?_)
          rintro e' we ⟨v, rfl, hR, hb⟩
          obtain ⟨Ap, cp, rfl⟩ := Kd.R_slice hR
          have hSm : Sm B we Ap p3.length cp := sm_of_R hR HBs.out
          have HSm := Aside0.mk hSm
          have m1_ := Aside0.mk (HXr.out.step hb)
          have m2_ := Aside0.mk (HYr.out.step hb)
          have m3_ : Aside0 (Below B w2 we) := ⟨below_then HBw.out HBs.out hb⟩
          have m4_ : Aside0 (B ≤ we.heap.size) := ⟨Nat.le_trans HBs.out (hb).size⟩
          clear HXr HYr HBw HBs
          have HXr := m1_
          have HYr := m2_
          have HBw := m3_
          have HBs := m4_
          clear m1_ m2_ m3_ m4_
          clear hb hR hSm x0 x1 x2 x3 HNm
          go_upto_region 8 with fail
          obtain ⟨m, hm⟩ : ∃ m, m = p3.length := ⟨_, rfl⟩
          rw [← hm] at HSm ⊢
          clear hm
          obtain ⟨wf, hwf⟩ : ∃ wf, wf = we.alloc (.cells #[.int .i64 p1, .int .i64 p2, .slice Ap m cp, .int .i64 p4] 26) := ⟨_, rfl⟩
          obtain ⟨gf, hgf⟩ : ∃ gf, gf = we.heap.size := ⟨_, rfl⟩
          rw [← hwf, ← hgf]
          have hb : Below we.heap.size we wf := by rw [hwf]; exact below_alloc (Below.refl _ _) _
          have kf : wf.heap[gf]? = some (.cells #[.int .i64 p1, .int .i64 p2, .slice Ap m cp, .int .i64 p4] 26 (0, 0)) := by rw [hwf, hgf]; exact blk_new _ _
          have HKf := Aside0.mk kf
          have HSf := Aside0.mk (HSm.out.step hb)
          have m1_ := Aside0.mk (HXr.out.step hb)
          have m2_ := Aside0.mk (HYr.out.step hb)
          have m3_ : Aside0 (Below B w2 wf) := ⟨below_then HBw.out HBs.out hb⟩
          have m4_ : Aside0 (B ≤ wf.heap.size) := ⟨Nat.le_trans HBs.out (hb).size⟩
          clear HXr HYr HBw HBs
          have HXr := m1_
          have HYr := m2_
          have HBw := m3_
          have HBs := m4_
          clear m1_ m2_ m3_ m4_
          clear hb kf hwf hgf HSm
          obtain ⟨x0, x1, x2, x3⟩ := box_cells HXr.out.blk
          obtain ⟨xs, f, hh, hxl⟩ := HF.out.2.2.2.2
          have HGn := Aside0.mk hh
          have HXl := Aside0.mk hxl
          clear hh hxl
          go_wp2_with fail
          (with_reducible refine (Gn.cond_Negate.calls k kd md A0 c0 l0 a0 xs f _ HXr.out.rd HXr.out.cap HGn.out).mono ?_)
          rintro e' wg ⟨v, rfl, hS, hb⟩
          have HLR := Aside0.mk (lr_of_S hS HBs.out)
          have HKg := Aside0.mk (blk_below HKf.out hb)
          have HSg := Aside0.mk (HSf.out.step hb)
          have m1_ := Aside0.mk (HXr.out.step hb)
          have m2_ := Aside0.mk (HYr.out.step hb)
          have m3_ : Aside0 (Below B w2 wg) := ⟨below_then HBw.out HBs.out hb⟩
          have m4_ : Aside0 (B ≤ wg.heap.size) := ⟨Nat.le_trans HBs.out (hb).size⟩
          clear HXr HYr HBw HBs
          have HXr := m1_
          have HYr := m2_
          have HBw := m3_
          have HBs := m4_
          clear m1_ m2_ m3_ m4_
          clear hb hS x0 x1 x2 x3 HKf HSf HGn
          obtain ⟨N1, hN1⟩ : ∃ N1, N1 = xs.length := ⟨_, rfl⟩
          rw [← hN1] at HLR
          have hN1b : N1 ≤ 1000 := by rw [hN1]; exact HXl.out
          have HN1 := Aside0.mk hN1b
          clear hN1 hN1b HXl
          obtain ⟨z0, z1, z2, z3⟩ := box_cells HKg.out
          obtain ⟨inner, hown, hrows⟩ := HLR.out
          obtain ⟨wl, hwl⟩ : ∃ wl, wl = wg.alloc (.cells #[.int .i64 p1, .int .i64 p2, .slice Ap m cp, .int .i64 p4] 26) := ⟨_, rfl⟩
          have hbl : Below wg.heap.size wg wl := by rw [hwl]; exact below_alloc (Below.refl _ _) _
          have hblk : wl.heap[wg.heap.size]? = some (.cells #[.int .i64 p1, .int .i64 p2, .slice Ap m cp, .int .i64 p4] 26 (0, 0)) := by rw [hwl]; exact blk_new _ _
          have HO := Aside0.mk (pw_own_below hown hbl)
          have HRW := Aside0.mk (fun j hj => by
            obtain ⟨y0, y1, K, A, m', c, h0, h1, h2, h3, h4⟩ := hrows j hj
            exact (⟨y0, y1, K, A, m', c, h0, h1, h2, h3, h4.step hbl⟩ : Es B wl inner j))
          have HSl := Aside0.mk (HSg.out.step hbl)
          have HBL := Aside0.mk hbl
          have HBK := Aside0.mk hblk
          have HWL := Aside0.mk hwl
          have HBl : Aside0 (B ≤ wl.heap.size) := ⟨Nat.le_trans HBs.out hbl.size⟩
          obtain ⟨i26, hi26, hz26, hs26, hb26⟩ := info_parts Man.info26
          clear hown hrows hbl hblk hwl HLR
          go_wp2_with ((with_reducible refine gate_dst (N := 51) rfl ?_); rw [← HWL.out]; refine wpList_append_own wl rfl (.tmp 48) (.tmp 50) 36 rfl B 26 i26 (.agg #[.int .i64 0, .int .i64 0, .slice none 0 0, .int .i64 0]) 4 48 Try.underlying36 hi26 hz26 hs26 hb26 rfl (by decide) _ N1 inner rfl HO.out ⟨wg.heap.size, 0, none⟩ 1 1 [.int .i64 p1, .int .i64 p2, .slice Ap m cp, .int .i64 p4] rfl rfl ?c1 ?c2 ?c3 ?c4 ?c5 ?_; (case c1 => intro j u hj; rw [add_plain, blk_cell HBK.out]; simpa using hj); (case c2 => intro u hu; simp at hu; rcases hu with rfl | rfl | rfl | rfl <;> rfl); (case c3 => have := HN1.out; simp only [maxLen]; omega); (case c4 => have := HN1.out; omega); (case c5 => exact HBl.out); intro vl wh ho' hg' _; have HG := Aside0.mk hg'; have HO' := Aside0.mk ho'; clear ho' hg'; obtain ⟨gv, cv, rfl, hcv, hgv⟩ := HO'.out.form (by omega); clear hcv hgv)
          have HLn := Aside0.mk (LR.app HO.out HRW.out HSl.out HO'.out HG.out)
          have hbg : Below B w2 wh := (below_then HBw.out HBs.out HBL.out).grown HG.out HBl.out (fun k hk => own_base HO.out k hk)
          have HBg := Aside0.mk hbg
          have HBgs : Aside0 (B ≤ wh.heap.size) := ⟨by rw [HBB.out] at hbg ⊢; exact hbg.size⟩
          clear HO HRW HSl HBL HBK HWL HBl HBs HBw HXr HYr HG hbg z0 z1 z2 z3 hi26 hz26 hs26 hb26 HO' HKg HSg
          obtain ⟨N, hN⟩ : ∃ N, N = N1 + 1 := ⟨_, rfl⟩
          rw [← hN] at HLn ⊢
          rw [show (N1 : Int) + 1 = (N : Int) by omega]
          have hNb : N ≤ 1001 := by have := HN1.out; omega
          clear hN
          go_loopg [53] N (fun km im wm => ∃ p : Nat, p + km = N ∧ im = .int .i64 p ∧ Below B w2 wm ∧ LR B wm (.slice (some ⟨gv, 0, none⟩) N cv) N)
          case atStart => exact ⟨0, by omega, rfl, HBg.out, HLn.out⟩
          case round =>
            obtain ⟨p, hp, rfl, hbw, hlr⟩ := hrel
            obtain ⟨wp, rfl⟩ : ∃ w_ : World, w_ = wr := ⟨_, rfl⟩
            obtain ⟨kp, rfl⟩ : ∃ k_ : Nat, k_ = gk := ⟨_, rfl⟩
            have HP := Aside0.mk hp
            have HBw := Aside0.mk hbw
            have HLR := Aside0.mk hlr
            have HBs : Aside0 (B ≤ wp.heap.size) := ⟨by rw [HBB.out] at hbw ⊢; exact hbw.size⟩
            clear hp hbw hlr
            by_cases hlt : p < N
            · obtain ⟨inner, hown, hrows⟩ := HLR.out
              obtain ⟨e0, e1, K, A, m, c, hi0, hi1, hi2, hi3, hsm⟩ := hrows p hlt
              have d0 : wp.cell? ⟨gv, p * 4, none⟩ = some (.int .i64 e0) := by have h := hown.cells (g := gv) rfl _ _ hi0; rw [add_plain] at h; exact h
              have d1 : wp.cell? ⟨gv, p * 4 + 1, none⟩ = some (.int .i64 e1) := by have h := hown.cells (g := gv) rfl _ _ hi1; rw [add_plain] at h; exact h
              have d2 : wp.cell? ⟨gv, p * 4 + 2, none⟩ = some (.slice A m c) := by have h := hown.cells (g := gv) rfl _ _ hi2; rw [add_plain] at h; exact h
              have d3 : wp.cell? ⟨gv, p * 4 + 3, none⟩ = some (.int .i64 K) := by have h := hown.cells (g := gv) rfl _ _ hi3; rw [add_plain] at h; exact h
              have HSM := Aside0.mk hsm
              have hltb : (p : Int) < (N : Int) := by omega
              have hltd : decide ((p : Int) < (N : Int)) = true := decide_eq_true hltb
              have HLT2 := Aside0.mk hlt
              have hpb : (p : Int) ≤ 1001 := by omega
              clear hown hrows hi0 hi1 hi2 hi3 hsm hlt
              go_upto_region 12 with fail
              obtain ⟨wi, hwi⟩ : ∃ wi, wi = wp.alloc (.cells #[.int .i64 e0, .int .i64 e1, .slice A m c, .int .i64 K] 26) := ⟨_, rfl⟩
              obtain ⟨gb, hgb⟩ : ∃ gb, gb = wp.heap.size := ⟨_, rfl⟩
              rw [← hwi, ← hgb]
              have hbi : Below wp.heap.size wp wi := by rw [hwi]; exact below_alloc (Below.refl _ _) _
              have hbk : wi.heap[gb]? = some (.cells #[.int .i64 e0, .int .i64 e1, .slice A m c, .int .i64 K] 26 (0, 0)) := by rw [hwi, hgb]; exact blk_new _ _
              have HBi := Aside0.mk (below_then HBw.out HBs.out hbi)
              have HLi := Aside0.mk (HLR.out.step hbi)
              have HSi := Aside0.mk (HSM.out.step hbi)
              have HKi := Aside0.mk hbk
              clear hwi hgb hbi hbk d0 d1 d2 d3 HSM HLR HBw HBs hltb hltd
              obtain ⟨b0, b1, b2, b3⟩ := box_cells HKi.out
              go_wp2_with fail
              clear b0 b1 b2 b3
              go_loopg [61] m (fun kt it wt => ∃ t : Nat, t + kt = m ∧ it = .int .i64 t ∧ Below B w2 wt ∧ LR B wt (.slice (some ⟨gv, 0, none⟩) N cv) N ∧ Sm B wt A m c ∧ wt.heap[gb]? = some (.cells #[.int .i64 e0, .int .i64 e1, .slice A m c, .int .i64 K] 26 (0, 0)))
              case atStart => exact ⟨0, by omega, rfl, HBi.out, HLi.out, HSi.out, HKi.out⟩
              case round =>
                obtain ⟨t, ht, rfl, hbw, hlr, hsm, hbk⟩ := hrel
                obtain ⟨wt, rfl⟩ : ∃ w_ : World, w_ = wr := ⟨_, rfl⟩
                obtain ⟨kt, rfl⟩ : ∃ k_ : Nat, k_ = gk := ⟨_, rfl⟩
                have HT := Aside0.mk ht
                have HBw := Aside0.mk hbw
                have hm63 : (m : Int) ≤ 9223372036854775807 := by have := hsm.1; have := hsm.2.1; omega
                obtain ⟨b0, b1, b2, b3⟩ := box_cells hbk
                clear ht hbw
                by_cases hlt : t < m
                · obtain ⟨g, cur, rfl, hgB, hh, hs⟩ := hsm.2.2 (by omega)
                  have hltd : decide ((t : Int) < (m : Int)) = true := decide_eq_true (by omega)
                  have hltb : (t : Int) < (m : Int) := by omega
                  obtain ⟨cv_, hc7⟩ : ∃ cv_, wt.cell? ⟨g, t, none⟩ = some cv_ := ⟨_, by rw [blk_cell hh, Array.getElem?_eq_getElem (show t < cur.size by omega)]⟩
                  have hf7 : wt.frozen? ⟨g, t, none⟩ = false := blk_frozen hh _
                  have HE := Aside0.mk (And.intro (hlr.set (j := t) (u := .int .i64 12345) hh) (And.intro (hsm.set (j := t) (u := .int .i64 12345) hh) (And.intro ((Below.heap_setCell wt ⟨g, t, none⟩ (.int .i64 12345) gb (blk_ne hbk hh (by decide))).trans hbk) (HBw.out.setCell (p := ⟨g, t, none⟩) hgB (.int .i64 12345)))))
                  clear hlr hsm hbk hh hs hgB
                  have HLT3 := Aside0.mk hlt
                  clear hlt
                  go_wp2_with fail
                  go_roundg (kt - 1)
                  case measure => have := HT.out; have := HLT3.out; omega
                  case rel => exact ⟨t + 1, by have := HT.out; have := HLT3.out; omega, by go_num, HE.out.2.2.2, HE.out.1, HE.out.2.1, HE.out.2.2.1⟩
                · have hltd : decide ((t : Int) < (m : Int)) = false := decide_eq_false (by omega)
                  have hltb : ¬ ((t : Int) < (m : Int)) := by omega
                  have HLR3 := Aside0.mk hlr
                  clear hlt hlr hsm hbk
                  go_wp2_with fail
                  go_roundg (kp - 1)
                  case measure => have := HP.out; have := HLT2.out; omega
                  case rel => exact ⟨p + 1, by have := HP.out; have := HLT2.out; omega, by go_num, HBw.out, HLR3.out⟩
            · have hltd : decide ((p : Int) < (N : Int)) = false := decide_eq_false (by omega)
              have hltb : ¬ ((p : Int) < (N : Int)) := by omega
              clear hlt
              go_wp2_with fail
              go_roundg (kq - 1)
              case measure => have := HQ.out; have := HLT.out; omega
              case rel => exact ⟨q + 1, by have := HQ.out; have := HLT.out; omega, by go_num, HBw.out⟩
      · skip
        have hq2 : q = 2 := by have := HQ.out; omega
        subst hq2
        clear hlt
        obtain ⟨x0, x1, x2, x3⟩ := box_cells HXr.out.blk
        obtain ⟨y0, y1, y2, y3⟩ := box_cells HYr.out.blk
        go_wp2_with fail
        (with_reducible refine (Aa.headlandref03_Same.calls k kd md A0 c0 l0 a0 kd md Ax cx l0 a0 true _ HXr.out.rd HXr.out.cap HYr.out.rd HYr.out.cap HW.out.2).mono ?_)
        rintro e' wa ⟨rfl, hb⟩
        have HBe := Aside0.mk (below_then HBw.out HBs.out hb)
        clear hb x0 x1 x2 x3 y0 y1 y2 y3
        go_wp2_with fail
        (with_reducible refine (Nr.headlandlaw03_awake.calls k true _ HW.out.1).mono ?_)
        rintro e' wb ⟨rfl, hb⟩
        have HBf : Aside0 (Below B w2 wb) := ⟨below_then HBe.out (by rw [HBB.out]; have := HBe.out; rw [HBB.out] at this; exact this.size) hb⟩
        clear hb
        go_wp2
        go_ret
        exact ⟨rfl, below_step HB2.out (by rw [HBB.out] at HBf; exact HBf.out)⟩
end Go.Proofs.Ytcakhbhjdpplcaa.Oc
