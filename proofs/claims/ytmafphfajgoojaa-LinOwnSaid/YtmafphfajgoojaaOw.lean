/- The walk of LinOwn: it returns what the two comparisons with the copies return. -/
import Derived.Test.YtmafphfajgoojaaBs
import Derived.Test.YtmafphfajgoojaaAd
import Derived.Test.YtmafphfajgoojaaSc
import Derived.Test.YtmafphfajgoojaaPut
import Derived.Test.YtmafphfajgoojaaCr
import Derived.Deep.DeepCutAuto
import Derived.Deep.CutRange
import Derived.LoopTactic
import Derived.WalkMore
import Derived.Outline
namespace Go.Proofs.Ytmafphfajgoojaa.Ow
open Go.RowKit Go.Proofs.Ytmafphfajgoojaa Go.Proofs.YtmafphfajgoojaaW.PrintWords Go.Proofs.YtmafphfajgoojaaW.PrintLast Go.Proofs.YtmafphfajgoojaaW.PrintMore
set_option linter.unusedVariables false
set_option linter.unusedSimpArgs false
theorem blkne {w : World} {g g' : Nat} {t t' : TypeId} {cs cs' : Array Value} (h : w.heap[g]? = some (.cells cs t (0, 0))) (h' : w.heap[g']? = some (.cells cs' t' (0, 0))) (hne : t ≠ t') : g ≠ g' := by
  rintro rfl
  rw [h] at h'
  injection h' with h'
  injection h' with _ ht
  exact hne ht
/-- A variable that holds an expression. -/
structure Bx (W : World) (g : Nat) (A : Option Addr) (c : Nat) (l : List Int) (a : Int) : Prop where
  blk : W.heap[g]? = some (.cells #[.slice A l.length c, .int .i64 a] 24 (0, 0))
  cap : l.length ≤ c
  rd : Kd.C (Kd.int .i64) W A l.length l
theorem Bx.step {W W' : World} {g : Nat} {A : Option Addr} {c : Nat} {l : List Int} {a : Int} (h : Bx W g A c l a) (hb : Below W.heap.size W W') : Bx W' g A c l a := ⟨blk_below h.blk hb, h.cap, Kd.C_below h.rd hb⟩
theorem Bx.cells {W : World} {g : Nat} {A : Option Addr} {c : Nat} {l : List Int} {a : Int} (h : Bx W g A c l a) : W.cell? ⟨g, 0, none⟩ = some (.slice A l.length c) ∧ W.cell? ⟨g, 1, none⟩ = some (.int .i64 a) := ⟨(blk_cell h.blk 0).trans rfl, (blk_cell h.blk 1).trans rfl⟩
/-- A row of numbers that may be written over: in new memory (from block B on), or empty. -/
def Sm (B : Nat) (W : World) (A : Option Addr) (m c : Nat) : Prop := m ≤ c ∧ c ≤ 9223372036854775807 ∧ (0 < m → ∃ g cur, A = some ⟨g, 0, none⟩ ∧ B ≤ g ∧ W.heap[g]? = some (.cells cur 3 (0, 0)) ∧ m ≤ cur.size)
theorem sm_of_R {W : World} {base B : Nat} {ok : Nat → Prop} {A : Option Addr} {m c : Nat} {xs : List Int} (h : (Kd.int .i64).R 3 W base ok (.slice A m c) xs) (hB : B ≤ base) : Sm B W A m c := by
  rcases (Kd.own_of_R h).2 with ⟨hv, _⟩ | ⟨g, cap, cur, hv, hb, hh, h5, hcm, hcs, _⟩
  · injection hv with _ hm hc
    exact ⟨by omega, by omega, fun h0 => by omega⟩
  · injection hv with ha hm hc
    subst ha; subst hm; subst hc
    unfold maxLen at hcm
    exact ⟨h5, by omega, fun _ => ⟨g, cur, rfl, Nat.le_trans hB hb, hh, by omega⟩⟩
theorem Sm.step {B : Nat} {W W' : World} {A : Option Addr} {m c : Nat} (h : Sm B W A m c) (hb : Below W.heap.size W W') : Sm B W' A m c :=
  ⟨h.1, h.2.1, fun h0 => by
    obtain ⟨g, cur, e, hB, hh, hs⟩ := h.2.2 h0
    exact ⟨g, cur, e, hB, blk_below hh hb, hs⟩⟩
theorem Sm.set {B : Nat} {W : World} {A : Option Addr} {m c g j : Nat} {cur : Array Value} {u : Value} (h : Sm B W A m c) (hg : W.heap[g]? = some (.cells cur 3 (0, 0))) : Sm B (W.setCell ⟨g, j, none⟩ u) A m c :=
  ⟨h.1, h.2.1, fun h0 => by
    obtain ⟨g', cur', e, hB, hh, hs⟩ := h.2.2 h0
    by_cases hgg : g' = g
    · subst hgg
      exact ⟨g', _, e, hB, blk_put hh j u rfl, by simpa using hs⟩
    · exact ⟨g', cur', e, hB, (Below.heap_setCell W ⟨g, j, none⟩ u g' hgg).trans hh, hs⟩⟩
/-- The list of the results: each of its rows may be written over. -/
def LR (B : Nat) (W : World) (v : Value) (n : Nat) : Prop := ∃ inner, W.ownsRow B 24 2 v n inner ∧ ∀ j, j < n → ∃ A m c K, inner[j * 2]? = some (.slice A m c) ∧ inner[j * 2 + 1]? = some (.int .i64 K) ∧ Sm B W A m c
theorem LR.step {B : Nat} {W W' : World} {v : Value} {n : Nat} (h : LR B W v n) (hb : Below W.heap.size W W') : LR B W' v n := by
  obtain ⟨inner, ho, hr⟩ := h
  exact ⟨inner, pw_own_below ho hb, fun j hj => by
    obtain ⟨A, m, c, K, h1, h2, h3⟩ := hr j hj
    exact ⟨A, m, c, K, h1, h2, h3.step hb⟩⟩
theorem LR.set {B : Nat} {W : World} {v : Value} {n g j : Nat} {cur : Array Value} {u : Value} (h : LR B W v n) (hg : W.heap[g]? = some (.cells cur 3 (0, 0))) : LR B (W.setCell ⟨g, j, none⟩ u) v n := by
  obtain ⟨inner, ho, hr⟩ := h
  refine ⟨inner, own_move ho (fun k hk => ?_), fun j hj => ?_⟩
  · obtain ⟨cells, hc⟩ := own_typed ho k hk
    exact Below.heap_setCell W ⟨g, j, none⟩ u k (blkne hc hg (by decide))
  · obtain ⟨A, m, c, K, h1, h2, h3⟩ := hr j hj
    exact ⟨A, m, c, K, h1, h2, h3.set hg⟩
structure Rs (B : Nat) (W : World) (g : Nat) (A : Option Addr) (m c : Nat) (K : Int) : Prop where
  blk : W.heap[g]? = some (.cells #[.slice A m c, .int .i64 K] 24 (0, 0))
  sm : Sm B W A m c
theorem Rs.step {B : Nat} {W W' : World} {g : Nat} {A : Option Addr} {m c : Nat} {K : Int} (h : Rs B W g A m c K) (hb : Below W.heap.size W W') : Rs B W' g A m c K := ⟨blk_below h.blk hb, h.sm.step hb⟩
theorem Rs.cells {B : Nat} {W : World} {g : Nat} {A : Option Addr} {m c : Nat} {K : Int} (h : Rs B W g A m c K) : W.cell? ⟨g, 0, none⟩ = some (.slice A m c) ∧ W.cell? ⟨g, 1, none⟩ = some (.int .i64 K) := ⟨(blk_cell h.blk 0).trans rfl, (blk_cell h.blk 1).trans rfl⟩
theorem Sm.grow {B : Nat} {W W' : World} {A : Option Addr} {m c : Nat} {row : Option Nat} (h : Sm B W A m c) (hg : W.grownBy W' row) (hne : ∀ g cur, W.heap[g]? = some (.cells cur 3 (0, 0)) → some g ≠ row) : Sm B W' A m c :=
  ⟨h.1, h.2.1, fun h0 => by
    obtain ⟨g, cur, e, hB, hh, hs⟩ := h.2.2 h0
    exact ⟨g, cur, e, hB, blk_grown hh hg (hne g cur hh), hs⟩⟩
theorem ne_row {B : Nat} {W : World} {v : Value} {n : Nat} {inner : List Value} (ho : W.ownsRow B 24 2 v n inner) : ∀ g cur, W.heap[g]? = some (.cells cur 3 (0, 0)) → some g ≠ v.ownBlock := by
  intro g cur hg he
  obtain ⟨cells, hc⟩ := own_typed ho g he.symm
  exact blkne hc hg (by decide) rfl
/-- Six results more. -/
theorem LR.app {B : Nat} {W W' : World} {v v' : Value} {n : Nat} {inner : List Value} (ho : W.ownsRow B 24 2 v n inner) (hr : ∀ j, j < n → ∃ A m c K, inner[j * 2]? = some (.slice A m c) ∧ inner[j * 2 + 1]? = some (.int .i64 K) ∧ Sm B W A m c)
    {P0 P1 P2 P3 P4 P5 : Option Addr} {n0 n1 n2 n3 n4 n5 e0 e1 e2 e3 e4 e5 : Nat} {k0 k1 k2 k3 k4 k5 : Int} (s0 : Sm B W P0 n0 e0) (s1 : Sm B W P1 n1 e1) (s2 : Sm B W P2 n2 e2) (s3 : Sm B W P3 n3 e3) (s4 : Sm B W P4 n4 e4) (s5 : Sm B W P5 n5 e5)
    (ho' : W'.ownsRow B 24 2 v' (n + 6) (inner ++ [.slice P0 n0 e0, .int .i64 k0, .slice P1 n1 e1, .int .i64 k1, .slice P2 n2 e2, .int .i64 k2, .slice P3 n3 e3, .int .i64 k3, .slice P4 n4 e4, .int .i64 k4, .slice P5 n5 e5, .int .i64 k5])) (hg : W.grownBy W' v.ownBlock) : LR B W' v' (n + 6) := by
  have hne := ne_row ho
  have hl : inner.length = n * 2 := ho.1
  refine ⟨_, ho', fun j hj => ?_⟩
  by_cases hjn : j < n
  · obtain ⟨A, m, c, K, h1, h2, h3⟩ := hr j hjn
    exact ⟨A, m, c, K, by rw [List.getElem?_append_left (by omega)]; exact h1, by rw [List.getElem?_append_left (by omega)]; exact h2, h3.grow hg hne⟩
  · obtain ⟨p, rfl⟩ : ∃ p, j = n + p := ⟨j - n, by omega⟩
    have q0 : (n + p) * 2 - inner.length = p * 2 := by omega
    have q1 : (n + p) * 2 + 1 - inner.length = p * 2 + 1 := by omega
    rw [List.getElem?_append_right (by omega), List.getElem?_append_right (by omega), q0, q1]
    have hp : p = 0 ∨ p = 1 ∨ p = 2 ∨ p = 3 ∨ p = 4 ∨ p = 5 := by omega
    rcases hp with rfl | rfl | rfl | rfl | rfl | rfl
    · exact ⟨_, _, _, _, rfl, rfl, s0.grow hg hne⟩
    · exact ⟨_, _, _, _, rfl, rfl, s1.grow hg hne⟩
    · exact ⟨_, _, _, _, rfl, rfl, s2.grow hg hne⟩
    · exact ⟨_, _, _, _, rfl, rfl, s3.grow hg hne⟩
    · exact ⟨_, _, _, _, rfl, rfl, s4.grow hg hne⟩
    · exact ⟨_, _, _, _, rfl, rfl, s5.grow hg hne⟩
theorem info24 : (Try.prog.info? 24).map (fun i => (i.zero, i.size, i.bytes)) = some (some (.agg #[.slice none 0 0, .int .i64 0]), 2, 32) := by kernel_rfl
theorem LR.nil (B : Nat) (W : World) : LR B W (.slice none 0 0) 0 := ⟨[], own_nil _ _ _ _, fun j hj => absurd hj (Nat.not_lt_zero j)⟩
def t1T : Bool × List (List Nat × List Nat) := (true, [([], []), ([], []), ([1], [1]), ([0, 2], [0, 2]), ([], []), ([4], [4]), ([3, 5], [3, 5]), ([], []), ([7, 6, 3, 0, 1, 2, 3, 4, 5, 6, 7], [6, 7])])
def t1B : List Nat := [0, 0, 2, 7, 0, 16, 63, 0, 255]
theorem t1tab : rtab .any (opsOf Try.f9 1) = t1T := by kernel_rfl
theorem t1bits : waitsOk t1T.2 t1B = true := by kernel_rfl
def t2T : Bool × List (List Nat × List Nat) := (true, [([], []), ([], []), ([1], [1]), ([0, 2], [0, 2]), ([], []), ([4], [4]), ([3, 5], [3, 5]), ([], []), ([7, 6, 3, 0, 1, 2, 3, 4, 5, 6, 7], [6, 7])])
def t2B : List Nat := [0, 0, 2, 7, 0, 16, 63, 0, 255]
theorem t2tab : rtab .any (opsOf Try.f9 2) = t2T := by kernel_rfl
theorem t2bits : waitsOk t2T.2 t2B = true := by kernel_rfl
structure Al (w0 W : World) (g4 g5 : Nat) (A0 : Option Addr) (c0 : Nat) (l0 : List Int) (a0 : Int) (A1 : Option Addr) (c1 : Nat) (l1 : List Int) (a1 : Int) : Prop where
  below : Below w0.heap.size w0 W
  x4 : Bx W g4 A0 c0 l0 a0
  x5 : Bx W g5 A1 c1 l1 a1
theorem Al.step {w0 W W' : World} {g4 g5 : Nat} {A0 A1 : Option Addr} {c0 c1 : Nat} {l0 l1 : List Int} {a0 a1 : Int} (h : Al w0 W g4 g5 A0 c0 l0 a0 A1 c1 l1 a1) (hb : Below W.heap.size W W') : Al w0 W' g4 g5 A0 c0 l0 a0 A1 c1 l1 a1 :=
  ⟨below_then h.below h.below.size hb, h.x4.step hb, h.x5.step hb⟩
set_option maxHeartbeats 16000000 in
set_option maxRecDepth 100000 in
theorem own_walk (k : Nat) (A0 : Option Addr) (c0 : Nat) (l0 : List Int) (a0 : Int) (A1 : Option Addr) (c1 : Nat) (l1 : List Int) (a1 i kk : Int) (w : World)
    (h0 : Kd.C (Kd.int .i64) w A0 l0.length l0) (hc0 : l0.length ≤ c0) (h1 : Kd.C (Kd.int .i64) w A1 l1.length l1) (hc1 : l1.length ≤ c1)
    (hl0 : l0.length < 17592186044000) (hl1 : l1.length < 17592186044000)
    (haw : Bs.headlandlaw02_awake.f k = some true) (hs0 : Bs.headlandref02_Same.f k l0 a0 l0 a0 = some true) (hs1 : Bs.headlandref02_Same.f k l1 a1 l1 a1 = some true)
    (hAdd : ∃ r1 r2 r3, Ad.lin_Add.f k l0 a0 l1 a1 = some (r1, r2, r3)) (hSub : ∃ r1 r2 r3, Ad.lin_Sub.f k l0 a0 l1 a1 = some (r1, r2, r3)) (hScale : ∃ r1 r2 r3, Sc.lin_Scale.f k l0 a0 kk = some (r1, r2, r3))
    (hPut : ∃ r1 r2 r3, Pu.lin_Put.f k l0 a0 i l1 a1 = some (r1, r2, r3)) (hCut : ∃ r1 r2 r3, Cr.lin_Cut.f k l0 a0 i = some (r1, r2, r3)) (hRoom : ∃ r1 r2 r3, Cr.lin_Room.f k l0 a0 i kk = some (r1, r2, r3)) :
    Calls Try.prog 9 #[.agg #[.slice A0 l0.length c0, .int .i64 a0], .agg #[.slice A1 l1.length c1, .int .i64 a1], .int .i64 i, .int .i64 kk] w fun e w' => e = .returned (.bool true) ∧ Below w.heap.size w w' := by
  have HC := Aside0.mk (And.intro hc0 hc1)
  have HL := Aside0.mk (And.intro hl0 hl1)
  have HW := Aside0.mk (And.intro haw (And.intro hs0 hs1))
  have HF := Aside0.mk (And.intro hAdd (And.intro hSub (And.intro hScale (And.intro hPut (And.intro hCut hRoom)))))
  have H0 := Aside0.mk (And.intro h0 h1)
  clear h0 h1 hc0 hc1 hl0 hl1 haw hs0 hs1 hAdd hSub hScale hPut hCut hRoom
  go_enter Try.func9, Try.ntmps9
  go_upto_region 1 with fail
  have S0 : Al w ((w.alloc (.cells #[.slice A0 l0.length c0, .int .i64 a0] 24)).alloc (.cells #[.slice A1 l1.length c1, .int .i64 a1] 24)) w.heap.size (w.heap.size + 1) A0 c0 l0 a0 A1 c1 l1 a1 :=
    ⟨below_alloc (below_alloc (Below.refl _ _) _) _, ⟨blk_alloc (blk_new _ _) _, HC.out.1, Kd.C_below H0.out.1 (below_alloc (below_alloc (Below.refl _ _) _) _)⟩,
      ⟨by have := blk_new (w.alloc (.cells #[.slice A0 l0.length c0, .int .i64 a0] 24)) (.cells #[.slice A1 l1.length c1, .int .i64 a1] 24); simpa using this, HC.out.2, Kd.C_below H0.out.2 (below_alloc (below_alloc (Below.refl _ _) _) _)⟩⟩
  generalize hW1 : (w.alloc (.cells #[.slice A0 l0.length c0, .int .i64 a0] 24)).alloc (.cells #[.slice A1 l1.length c1, .int .i64 a1] 24) = w1 at S0 ⊢
  clear hW1 H0
  have HS := Aside0.mk S0
  clear S0
  go_cut [9] from 27 to 33 (fun vx wx => ∃ gN Ax cx, vx = .pointer (some ⟨gN, 0, none⟩) ∧ Bx wx gN Ax cx l0 a0 ∧ Below w1.heap.size w1 wx)
  case first =>
    refine start_ (n := 9) (S := fun w' => w'.cell? ⟨w.heap.size, 0, none⟩ = some (.slice A0 l0.length c0) ∧ w'.cell? ⟨w.heap.size, 1, none⟩ = some (.int .i64 a0)) (ds := []) #[false, false, false, false, false, false, false, false, false] (by kernel_rfl) rfl rfl ⟨(blk_cell HS.out.x4.blk 0).trans rfl, (blk_cell HS.out.x4.blk 1).trans rfl⟩ (fun hHeld => ?_); refine with_tabW t1tab t1bits (fun HT_ HW_ => ?_)
    obtain ⟨ws, hws⟩ : ∃ ws, ws = w1.drew := ⟨_, rfl⟩
    rw [← hws] at hHeld ⊢
    have hbs : Aside0 (Below w1.heap.size w1 ws) := ⟨by rw [hws]; exact below_drew (Below.refl _ _)⟩
    have BK0 := Aside0.mk (HS.out.x4.step hbs.out)
    have BK := BK0
    have HB := Aside0.mk (Below.refl ws.heap.size ws)
    clear hws
    refine pure_ (i := 1) (N := some 28) (v := ?_) (a' := ?_) #[false, true, false, false, false, false, false, false, false] rfl rfl (any_of HT_.out (by kernel_rfl)) (fun _ _ _ h => h) (Or.inl ⟨by rfl, ?_⟩) ?_ ?_
    rotate_left
    · intro w'
      go_simp
      with_reducible rfl
    rotate_left
    · simp only [Act.put, List.setIfInBounds_toArray, List.set_cons_zero, List.set_cons_succ, i64_w, i32_w]
      rfl
    refine pure_ (i := 4) (N := some 31) (v := ?_) (a' := ?_) #[false, true, false, false, true, false, false, false, false] rfl rfl (any_of HT_.out (by kernel_rfl)) (fun _ _ _ h => h) (Or.inl ⟨by rfl, ?_⟩) ?_ ?_
    rotate_left
    · intro w'
      go_simp
      with_reducible rfl
    rotate_left
    · simp only [Act.put, List.setIfInBounds_toArray, List.set_cons_zero, List.set_cons_succ, i64_w, i32_w]
      rfl
    refine take_ (i := 2) (N := some 29) (v := ?_) (a' := ?_) #[false, true, true, false, true, false, false, false, false] rfl rfl (take_ofW HT_.out HW_.out (by kernel_rfl)) (fun _ _ _ h => h) (Or.inl ⟨by rfl, ?_⟩) hHeld ?_ ?_
    rotate_left
    · rintro w' ⟨s0, s1⟩
      go_simp
      with_reducible rfl
    rotate_left
    · simp only [Act.put, List.setIfInBounds_toArray, List.set_cons_zero, List.set_cons_succ, i64_w, i32_w]
      rfl
    refine take_ (i := 5) (N := some 32) (v := ?_) (a' := ?_) #[false, true, true, false, true, true, false, false, false] rfl rfl (take_ofW HT_.out HW_.out (by kernel_rfl)) (fun _ _ _ h => h) (Or.inl ⟨by rfl, ?_⟩) hHeld ?_ ?_
    rotate_left
    · rintro w' ⟨s0, s1⟩
      go_simp
      with_reducible rfl
    rotate_left
    · simp only [Act.put, List.setIfInBounds_toArray, List.set_cons_zero, List.set_cons_succ, i64_w, i32_w]
      rfl
    refine two_ (i := 0) (j := 7) (Ni := some 27) (Nj := some 9) #[true, true, true, false, true, true, false, false, false] #[false, true, true, false, true, true, false, true, false] rfl rfl rfl rfl (two_of HT_.out (by kernel_rfl)) (by decide) (by decide) (fun K hK => ?_) (fun K hK => ?_)
    · skip
      refine Kd.R_lit_step (Kd.int .i64) (w0 := ws) ws.heap.size 3 ?hg (N := 27) ?hd (xs := ([] : List Int)) (inner := []) (ok := fun _ => True) (okp := fun _ => True) ?hr ?hp (fun _ hk => hk) trivial HB.out HB.out.size (by simp) ?_; (case hd => rfl); (case hg => rfl); (case hr => first | (go_simp; done) | (go_simp; rfl)); (case hp => exact (Reps.none _ _))
      intro v0 wn ho hb hgr hnw
      have HO := Aside0.mk ho
      have n_ := Aside0.mk (BK0.out.step hb)
      clear HB BK
      have HB := Aside0.mk hb
      have BK := n_
      clear n_ ho hb hgr hnw
      refine hK.out _ _ ⟨(blk_cell BK.out.blk 0).trans rfl, (blk_cell BK.out.blk 1).trans rfl⟩ (fun hHeld => ?_)
      clear hK K
      refine norm_ (a' := ?_) ?_ ?_
      rotate_left
      · show Act.put _ (some 27) _ = _
        simp only [Act.put, List.setIfInBounds_toArray, List.set_cons_zero, List.set_cons_succ, i64_w, i32_w]
        rfl
      refine two_ (i := 3) (j := 7) (Ni := some 30) (Nj := some 9) #[true, true, true, true, true, true, false, false, false] #[true, true, true, false, true, true, false, true, false] rfl rfl rfl rfl (two_of HT_.out (by kernel_rfl)) (by decide) (by decide) (fun K hK => ?_) (fun K hK => ?_)
      · skip
        refine Kd.R_append_rows_step (Kd.int .i64) (w0 := ws) ws.heap.size (by rfl) (.tmp 27) (.tmp 29) 22 3 (.int .i64 0) 8 rfl Try.underlying22 Man.info3 rfl (by decide) (by omega) v0 ([] : List Int) l0 _ _ _ (fun _ => True) (fun _ => False) rfl rfl HO.out BK.out.rd (fun _ _ h => h) (fun _ h => h.elim) (fun _ _ => trivial) HB.out HB.out.size (by have := HL.out; simp; omega) ?_
        intro v3 wn ho hb hgr hat
        rw [List.nil_append] at ho
        have n_ := Aside0.mk (BK0.out.step hb)
        clear BK
        have BK := n_
        clear HB HO
        have HO := Aside0.mk ho
        have HB := Aside0.mk hb
        clear n_ ho hb hgr hat
        obtain ⟨Ax, cx, rfl⟩ := Kd.R_slice HO.out
        refine hK.out _ _ ⟨(blk_cell BK.out.blk 0).trans rfl, (blk_cell BK.out.blk 1).trans rfl⟩ (fun hHeld => ?_)
        clear hK K
        refine norm_ (a' := ?_) ?_ ?_
        rotate_left
        · show Act.put _ (some 30) _ = _
          simp only [Act.put, List.setIfInBounds_toArray, List.set_cons_zero, List.set_cons_succ, i64_w, i32_w]
          rfl
        refine pure_ (i := 6) (N := some 33) (v := ?_) (a' := ?_) #[true, true, true, true, true, true, true, false, false] rfl rfl (any_of HT_.out (by kernel_rfl)) (fun _ _ _ h => h) (Or.inl ⟨by rfl, ?_⟩) ?_ ?_
        rotate_left
        · intro w'
          go_simp
          with_reducible rfl
        rotate_left
        · simp only [Act.put, List.setIfInBounds_toArray, List.set_cons_zero, List.set_cons_succ, i64_w, i32_w]
          rfl
        refine one_ (i := 7) (N := some 9) #[true, true, true, true, true, true, true, true, false] rfl rfl (one_of HT_.out (by kernel_rfl)) (by decide) (fun K hK => ?_)
        refine box_step ?hg (N := 9) ?hd (cs := #[.slice none 0 0, .int .i64 0]) (t := 24) ?hr ?_; (case hd => rfl); (case hg => rfl); (case hr => first | (go_simp; done) | (go_simp; rfl))
        intro gN hgN wn hbox hb
        have BN := Aside0.mk hbox
        have HGN : Aside0 (ws.heap.size ≤ gN) := ⟨by rw [hgN]; exact HB.out.size⟩
        have n_ := Aside0.mk (BK.out.step hb)
        have m_ := Aside0.mk (below_step HB.out hb)
        have HO' := Aside0.mk (Kd.R_below HO.out hb)
        clear HO
        have HO := HO'
        clear HO'
        clear HB BK
        have HB := m_
        have BK := n_
        clear n_ m_ hb hbox hgN
        refine hK.out _ _ ⟨(blk_cell BK.out.blk 0).trans rfl, (blk_cell BK.out.blk 1).trans rfl⟩ (fun hHeld => ?_)
        clear hK K
        refine norm_ (a' := ?_) ?_ ?_
        rotate_left
        · show Act.put _ (some 9) _ = _
          simp only [Act.put, List.setIfInBounds_toArray, List.set_cons_zero, List.set_cons_succ, i64_w, i32_w]
          rfl
        refine one_ (i := 8) (N := none) #[true, true, true, true, true, true, true, true, true] rfl rfl (one_of HT_.out (by kernel_rfl)) (by decide) (fun K hK => ?_)
        have hs0 : wn.cell? ⟨gN, 0, none⟩ = some (.slice none 0 0) := (blk_cell BN.out 0).trans rfl
        have hs1 : wn.cell? ⟨gN, 1, none⟩ = some (.int .i64 0) := (blk_cell BN.out 1).trans rfl
        have hf0 := blk_frozen BN.out 0
        have hf1 := blk_frozen BN.out 1
        refine skip_ (w1 := ?_) (by rfl) rfl ?_ ?_
        rotate_left
        · go_simp
          rfl
        clear hs0 hs1 hf0 hf1
        have hbn : Below ws.heap.size ws ((wn.setCell ⟨gN, 0, none⟩ (.slice Ax l0.length cx)).setCell ⟨gN, 1, none⟩ (.int .i64 a0)) := below_set (below_set HB.out HGN.out) HGN.out
        have hbk := BK0.out.step hbn
        have hrn := Kd.R_reads' (Kd.R_far (p := ⟨gN, 1, none⟩) (Kd.R_far (p := ⟨gN, 0, none⟩) (Kd.R_types HO.out BN.out (by decide)) (fun _ hk => hk.2) (.slice Ax l0.length cx)) (fun _ hk => hk.2) (.int .i64 a0))
        have hnew : Bx ((wn.setCell ⟨gN, 0, none⟩ (.slice Ax l0.length cx)).setCell ⟨gN, 1, none⟩ (.int .i64 a0)) gN Ax cx l0 a0 := ⟨blk_put (blk_put BN.out 0 (.slice Ax l0.length cx) rfl) 1 (.int .i64 a0) rfl, hrn.2.1, hrn.2.2⟩
        have HN := Aside0.mk (And.intro hnew (below_then hbs.out hbs.out.size hbn))
        refine hK.out _ _ ⟨(blk_cell hbk.blk 0).trans rfl, (blk_cell hbk.blk 1).trans rfl⟩ (fun hHeld => ?_)
        clear hK K hbn hbk hrn hnew hHeld
        refine done_ (done_of HT_.out (by kernel_rfl)) ?_
        go_wp2_with fail
        go_meet
        case rel => exact ⟨gN, Ax, cx, rfl, HN.out.1, HN.out.2⟩
      · skip
        refine box_step ?hg (N := 9) ?hd (cs := #[.slice none 0 0, .int .i64 0]) (t := 24) ?hr ?_; (case hd => rfl); (case hg => rfl); (case hr => first | (go_simp; done) | (go_simp; rfl))
        intro gN hgN wn hbox hb
        have BN := Aside0.mk hbox
        have HGN : Aside0 (ws.heap.size ≤ gN) := ⟨by rw [hgN]; exact HB.out.size⟩
        have n_ := Aside0.mk (BK.out.step hb)
        have m_ := Aside0.mk (below_step HB.out hb)
        have HO' := Aside0.mk (Kd.R_below HO.out hb)
        clear HO
        have HO := HO'
        clear HO'
        clear HB BK
        have HB := m_
        have BK := n_
        clear n_ m_ hb hbox hgN
        refine hK.out _ _ ⟨(blk_cell BK.out.blk 0).trans rfl, (blk_cell BK.out.blk 1).trans rfl⟩ (fun hHeld => ?_)
        clear hK K
        refine norm_ (a' := ?_) ?_ ?_
        rotate_left
        · show Act.put _ (some 9) _ = _
          simp only [Act.put, List.setIfInBounds_toArray, List.set_cons_zero, List.set_cons_succ, i64_w, i32_w]
          rfl
        refine one_ (i := 3) (N := some 30) #[true, true, true, true, true, true, false, true, false] rfl rfl (one_of HT_.out (by kernel_rfl)) (by decide) (fun K hK => ?_)
        refine Kd.R_append_rows_step (Kd.int .i64) (w0 := ws) ws.heap.size (by rfl) (.tmp 27) (.tmp 29) 22 3 (.int .i64 0) 8 rfl Try.underlying22 Man.info3 rfl (by decide) (by omega) v0 ([] : List Int) l0 _ _ _ (fun _ => True) (fun _ => False) rfl rfl HO.out BK.out.rd (fun _ _ h => h) (fun _ h => h.elim) (fun _ _ => trivial) HB.out HB.out.size (by have := HL.out; simp; omega) ?_
        intro v3 wn ho hb hgr hat
        rw [List.nil_append] at ho
        have n_ := Aside0.mk (BK0.out.step hb)
        clear BK
        have BK := n_
        have BN' := Aside0.mk (blk_grown BN.out hgr (Kd.R_ne HO.out BN.out (by decide)))
        clear BN
        have BN := BN'
        clear BN'
        clear HB HO
        have HO := Aside0.mk ho
        have HB := Aside0.mk hb
        clear n_ ho hb hgr hat
        obtain ⟨Ax, cx, rfl⟩ := Kd.R_slice HO.out
        refine hK.out _ _ ⟨(blk_cell BK.out.blk 0).trans rfl, (blk_cell BK.out.blk 1).trans rfl⟩ (fun hHeld => ?_)
        clear hK K
        refine norm_ (a' := ?_) ?_ ?_
        rotate_left
        · show Act.put _ (some 30) _ = _
          simp only [Act.put, List.setIfInBounds_toArray, List.set_cons_zero, List.set_cons_succ, i64_w, i32_w]
          rfl
        refine pure_ (i := 6) (N := some 33) (v := ?_) (a' := ?_) #[true, true, true, true, true, true, true, true, false] rfl rfl (any_of HT_.out (by kernel_rfl)) (fun _ _ _ h => h) (Or.inl ⟨by rfl, ?_⟩) ?_ ?_
        rotate_left
        · intro w'
          go_simp
          with_reducible rfl
        rotate_left
        · simp only [Act.put, List.setIfInBounds_toArray, List.set_cons_zero, List.set_cons_succ, i64_w, i32_w]
          rfl
        refine one_ (i := 8) (N := none) #[true, true, true, true, true, true, true, true, true] rfl rfl (one_of HT_.out (by kernel_rfl)) (by decide) (fun K hK => ?_)
        have hs0 : wn.cell? ⟨gN, 0, none⟩ = some (.slice none 0 0) := (blk_cell BN.out 0).trans rfl
        have hs1 : wn.cell? ⟨gN, 1, none⟩ = some (.int .i64 0) := (blk_cell BN.out 1).trans rfl
        have hf0 := blk_frozen BN.out 0
        have hf1 := blk_frozen BN.out 1
        refine skip_ (w1 := ?_) (by rfl) rfl ?_ ?_
        rotate_left
        · go_simp
          rfl
        clear hs0 hs1 hf0 hf1
        have hbn : Below ws.heap.size ws ((wn.setCell ⟨gN, 0, none⟩ (.slice Ax l0.length cx)).setCell ⟨gN, 1, none⟩ (.int .i64 a0)) := below_set (below_set HB.out HGN.out) HGN.out
        have hbk := BK0.out.step hbn
        have hrn := Kd.R_reads' (Kd.R_far (p := ⟨gN, 1, none⟩) (Kd.R_far (p := ⟨gN, 0, none⟩) (Kd.R_types HO.out BN.out (by decide)) (fun _ hk => hk.2) (.slice Ax l0.length cx)) (fun _ hk => hk.2) (.int .i64 a0))
        have hnew : Bx ((wn.setCell ⟨gN, 0, none⟩ (.slice Ax l0.length cx)).setCell ⟨gN, 1, none⟩ (.int .i64 a0)) gN Ax cx l0 a0 := ⟨blk_put (blk_put BN.out 0 (.slice Ax l0.length cx) rfl) 1 (.int .i64 a0) rfl, hrn.2.1, hrn.2.2⟩
        have HN := Aside0.mk (And.intro hnew (below_then hbs.out hbs.out.size hbn))
        refine hK.out _ _ ⟨(blk_cell hbk.blk 0).trans rfl, (blk_cell hbk.blk 1).trans rfl⟩ (fun hHeld => ?_)
        clear hK K hbn hbk hrn hnew hHeld
        refine done_ (done_of HT_.out (by kernel_rfl)) ?_
        go_wp2_with fail
        go_meet
        case rel => exact ⟨gN, Ax, cx, rfl, HN.out.1, HN.out.2⟩
    · skip
      refine box_step ?hg (N := 9) ?hd (cs := #[.slice none 0 0, .int .i64 0]) (t := 24) ?hr ?_; (case hd => rfl); (case hg => rfl); (case hr => first | (go_simp; done) | (go_simp; rfl))
      intro gN hgN wn hbox hb
      have BN := Aside0.mk hbox
      have HGN : Aside0 (ws.heap.size ≤ gN) := ⟨by rw [hgN]; exact HB.out.size⟩
      have n_ := Aside0.mk (BK.out.step hb)
      have m_ := Aside0.mk (below_step HB.out hb)
      clear HB BK
      have HB := m_
      have BK := n_
      clear n_ m_ hb hbox hgN
      refine hK.out _ _ ⟨(blk_cell BK.out.blk 0).trans rfl, (blk_cell BK.out.blk 1).trans rfl⟩ (fun hHeld => ?_)
      clear hK K
      refine norm_ (a' := ?_) ?_ ?_
      rotate_left
      · show Act.put _ (some 9) _ = _
        simp only [Act.put, List.setIfInBounds_toArray, List.set_cons_zero, List.set_cons_succ, i64_w, i32_w]
        rfl
      refine one_ (i := 0) (N := some 27) #[true, true, true, false, true, true, false, true, false] rfl rfl (one_of HT_.out (by kernel_rfl)) (by decide) (fun K hK => ?_)
      refine Kd.R_lit_step (Kd.int .i64) (w0 := ws) ws.heap.size 3 ?hg (N := 27) ?hd (xs := ([] : List Int)) (inner := []) (ok := fun _ => True) (okp := fun _ => True) ?hr ?hp (fun _ hk => hk) trivial HB.out HB.out.size (by simp) ?_; (case hd => rfl); (case hg => rfl); (case hr => first | (go_simp; done) | (go_simp; rfl)); (case hp => exact (Reps.none _ _))
      intro v0 wn ho hb hgr hnw
      have HO := Aside0.mk ho
      have n_ := Aside0.mk (BK0.out.step hb)
      clear HB BK
      have HB := Aside0.mk hb
      have BK := n_
      have BN' := Aside0.mk (blk_grown BN.out hgr (by simp))
      clear BN
      have BN := BN'
      clear BN'
      clear n_ ho hb hgr hnw
      refine hK.out _ _ ⟨(blk_cell BK.out.blk 0).trans rfl, (blk_cell BK.out.blk 1).trans rfl⟩ (fun hHeld => ?_)
      clear hK K
      refine norm_ (a' := ?_) ?_ ?_
      rotate_left
      · show Act.put _ (some 27) _ = _
        simp only [Act.put, List.setIfInBounds_toArray, List.set_cons_zero, List.set_cons_succ, i64_w, i32_w]
        rfl
      refine one_ (i := 3) (N := some 30) #[true, true, true, true, true, true, false, true, false] rfl rfl (one_of HT_.out (by kernel_rfl)) (by decide) (fun K hK => ?_)
      refine Kd.R_append_rows_step (Kd.int .i64) (w0 := ws) ws.heap.size (by rfl) (.tmp 27) (.tmp 29) 22 3 (.int .i64 0) 8 rfl Try.underlying22 Man.info3 rfl (by decide) (by omega) v0 ([] : List Int) l0 _ _ _ (fun _ => True) (fun _ => False) rfl rfl HO.out BK.out.rd (fun _ _ h => h) (fun _ h => h.elim) (fun _ _ => trivial) HB.out HB.out.size (by have := HL.out; simp; omega) ?_
      intro v3 wn ho hb hgr hat
      rw [List.nil_append] at ho
      have n_ := Aside0.mk (BK0.out.step hb)
      clear BK
      have BK := n_
      have BN' := Aside0.mk (blk_grown BN.out hgr (Kd.R_ne HO.out BN.out (by decide)))
      clear BN
      have BN := BN'
      clear BN'
      clear HB HO
      have HO := Aside0.mk ho
      have HB := Aside0.mk hb
      clear n_ ho hb hgr hat
      obtain ⟨Ax, cx, rfl⟩ := Kd.R_slice HO.out
      refine hK.out _ _ ⟨(blk_cell BK.out.blk 0).trans rfl, (blk_cell BK.out.blk 1).trans rfl⟩ (fun hHeld => ?_)
      clear hK K
      refine norm_ (a' := ?_) ?_ ?_
      rotate_left
      · show Act.put _ (some 30) _ = _
        simp only [Act.put, List.setIfInBounds_toArray, List.set_cons_zero, List.set_cons_succ, i64_w, i32_w]
        rfl
      refine pure_ (i := 6) (N := some 33) (v := ?_) (a' := ?_) #[true, true, true, true, true, true, true, true, false] rfl rfl (any_of HT_.out (by kernel_rfl)) (fun _ _ _ h => h) (Or.inl ⟨by rfl, ?_⟩) ?_ ?_
      rotate_left
      · intro w'
        go_simp
        with_reducible rfl
      rotate_left
      · simp only [Act.put, List.setIfInBounds_toArray, List.set_cons_zero, List.set_cons_succ, i64_w, i32_w]
        rfl
      refine one_ (i := 8) (N := none) #[true, true, true, true, true, true, true, true, true] rfl rfl (one_of HT_.out (by kernel_rfl)) (by decide) (fun K hK => ?_)
      have hs0 : wn.cell? ⟨gN, 0, none⟩ = some (.slice none 0 0) := (blk_cell BN.out 0).trans rfl
      have hs1 : wn.cell? ⟨gN, 1, none⟩ = some (.int .i64 0) := (blk_cell BN.out 1).trans rfl
      have hf0 := blk_frozen BN.out 0
      have hf1 := blk_frozen BN.out 1
      refine skip_ (w1 := ?_) (by rfl) rfl ?_ ?_
      rotate_left
      · go_simp
        rfl
      clear hs0 hs1 hf0 hf1
      have hbn : Below ws.heap.size ws ((wn.setCell ⟨gN, 0, none⟩ (.slice Ax l0.length cx)).setCell ⟨gN, 1, none⟩ (.int .i64 a0)) := below_set (below_set HB.out HGN.out) HGN.out
      have hbk := BK0.out.step hbn
      have hrn := Kd.R_reads' (Kd.R_far (p := ⟨gN, 1, none⟩) (Kd.R_far (p := ⟨gN, 0, none⟩) (Kd.R_types HO.out BN.out (by decide)) (fun _ hk => hk.2) (.slice Ax l0.length cx)) (fun _ hk => hk.2) (.int .i64 a0))
      have hnew : Bx ((wn.setCell ⟨gN, 0, none⟩ (.slice Ax l0.length cx)).setCell ⟨gN, 1, none⟩ (.int .i64 a0)) gN Ax cx l0 a0 := ⟨blk_put (blk_put BN.out 0 (.slice Ax l0.length cx) rfl) 1 (.int .i64 a0) rfl, hrn.2.1, hrn.2.2⟩
      have HN := Aside0.mk (And.intro hnew (below_then hbs.out hbs.out.size hbn))
      refine hK.out _ _ ⟨(blk_cell hbk.blk 0).trans rfl, (blk_cell hbk.blk 1).trans rfl⟩ (fun hHeld => ?_)
      clear hK K hbn hbk hrn hnew hHeld
      refine done_ (done_of HT_.out (by kernel_rfl)) ?_
      go_wp2_with fail
      go_meet
      case rel => exact ⟨gN, Ax, cx, rfl, HN.out.1, HN.out.2⟩
  case rest =>
    obtain ⟨g9, Ax, cx, rfl, hx, hb⟩ := hcut
    obtain ⟨w2, rfl⟩ : ∃ w_ : World, w_ = wc := ⟨_, rfl⟩
    have HX := Aside0.mk hx
    have HS1 := HS
    have HS := Aside0.mk (HS1.out.step hb)
    clear HS1 hx hb
    go_upto_region 2 with fail
    go_cut [10] from 34 to 40 (fun vx wx => ∃ gN Ax cx, vx = .pointer (some ⟨gN, 0, none⟩) ∧ Bx wx gN Ax cx l1 a1 ∧ Below w2.heap.size w2 wx)
    case first =>
      refine start_ (n := 9) (S := fun w' => w'.cell? ⟨(w.heap.size + 1), 0, none⟩ = some (.slice A1 l1.length c1) ∧ w'.cell? ⟨(w.heap.size + 1), 1, none⟩ = some (.int .i64 a1)) (ds := []) #[false, false, false, false, false, false, false, false, false] (by kernel_rfl) rfl rfl ⟨(blk_cell HS.out.x5.blk 0).trans rfl, (blk_cell HS.out.x5.blk 1).trans rfl⟩ (fun hHeld => ?_); refine with_tabW t2tab t2bits (fun HT_ HW_ => ?_)
      obtain ⟨ws, hws⟩ : ∃ ws, ws = w2.drew := ⟨_, rfl⟩
      rw [← hws] at hHeld ⊢
      have hbs : Aside0 (Below w2.heap.size w2 ws) := ⟨by rw [hws]; exact below_drew (Below.refl _ _)⟩
      have BK0 := Aside0.mk (HS.out.x5.step hbs.out)
      have BK := BK0
      have HB := Aside0.mk (Below.refl ws.heap.size ws)
      clear hws
      refine pure_ (i := 1) (N := some 35) (v := ?_) (a' := ?_) #[false, true, false, false, false, false, false, false, false] rfl rfl (any_of HT_.out (by kernel_rfl)) (fun _ _ _ h => h) (Or.inl ⟨by rfl, ?_⟩) ?_ ?_
      rotate_left
      · intro w'
        go_simp
        with_reducible rfl
      rotate_left
      · simp only [Act.put, List.setIfInBounds_toArray, List.set_cons_zero, List.set_cons_succ, i64_w, i32_w]
        rfl
      refine pure_ (i := 4) (N := some 38) (v := ?_) (a' := ?_) #[false, true, false, false, true, false, false, false, false] rfl rfl (any_of HT_.out (by kernel_rfl)) (fun _ _ _ h => h) (Or.inl ⟨by rfl, ?_⟩) ?_ ?_
      rotate_left
      · intro w'
        go_simp
        with_reducible rfl
      rotate_left
      · simp only [Act.put, List.setIfInBounds_toArray, List.set_cons_zero, List.set_cons_succ, i64_w, i32_w]
        rfl
      refine take_ (i := 2) (N := some 36) (v := ?_) (a' := ?_) #[false, true, true, false, true, false, false, false, false] rfl rfl (take_ofW HT_.out HW_.out (by kernel_rfl)) (fun _ _ _ h => h) (Or.inl ⟨by rfl, ?_⟩) hHeld ?_ ?_
      rotate_left
      · rintro w' ⟨s0, s1⟩
        go_simp
        with_reducible rfl
      rotate_left
      · simp only [Act.put, List.setIfInBounds_toArray, List.set_cons_zero, List.set_cons_succ, i64_w, i32_w]
        rfl
      refine take_ (i := 5) (N := some 39) (v := ?_) (a' := ?_) #[false, true, true, false, true, true, false, false, false] rfl rfl (take_ofW HT_.out HW_.out (by kernel_rfl)) (fun _ _ _ h => h) (Or.inl ⟨by rfl, ?_⟩) hHeld ?_ ?_
      rotate_left
      · rintro w' ⟨s0, s1⟩
        go_simp
        with_reducible rfl
      rotate_left
      · simp only [Act.put, List.setIfInBounds_toArray, List.set_cons_zero, List.set_cons_succ, i64_w, i32_w]
        rfl
      refine two_ (i := 0) (j := 7) (Ni := some 34) (Nj := some 10) #[true, true, true, false, true, true, false, false, false] #[false, true, true, false, true, true, false, true, false] rfl rfl rfl rfl (two_of HT_.out (by kernel_rfl)) (by decide) (by decide) (fun K hK => ?_) (fun K hK => ?_)
      · skip
        refine Kd.R_lit_step (Kd.int .i64) (w0 := ws) ws.heap.size 3 ?hg (N := 34) ?hd (xs := ([] : List Int)) (inner := []) (ok := fun _ => True) (okp := fun _ => True) ?hr ?hp (fun _ hk => hk) trivial HB.out HB.out.size (by simp) ?_; (case hd => rfl); (case hg => rfl); (case hr => first | (go_simp; done) | (go_simp; rfl)); (case hp => exact (Reps.none _ _))
        intro v0 wn ho hb hgr hnw
        have HO := Aside0.mk ho
        have n_ := Aside0.mk (BK0.out.step hb)
        clear HB BK
        have HB := Aside0.mk hb
        have BK := n_
        clear n_ ho hb hgr hnw
        refine hK.out _ _ ⟨(blk_cell BK.out.blk 0).trans rfl, (blk_cell BK.out.blk 1).trans rfl⟩ (fun hHeld => ?_)
        clear hK K
        refine norm_ (a' := ?_) ?_ ?_
        rotate_left
        · show Act.put _ (some 34) _ = _
          simp only [Act.put, List.setIfInBounds_toArray, List.set_cons_zero, List.set_cons_succ, i64_w, i32_w]
          rfl
        refine two_ (i := 3) (j := 7) (Ni := some 37) (Nj := some 10) #[true, true, true, true, true, true, false, false, false] #[true, true, true, false, true, true, false, true, false] rfl rfl rfl rfl (two_of HT_.out (by kernel_rfl)) (by decide) (by decide) (fun K hK => ?_) (fun K hK => ?_)
        · skip
          refine Kd.R_append_rows_step (Kd.int .i64) (w0 := ws) ws.heap.size (by rfl) (.tmp 34) (.tmp 36) 22 3 (.int .i64 0) 8 rfl Try.underlying22 Man.info3 rfl (by decide) (by omega) v0 ([] : List Int) l1 _ _ _ (fun _ => True) (fun _ => False) rfl rfl HO.out BK.out.rd (fun _ _ h => h) (fun _ h => h.elim) (fun _ _ => trivial) HB.out HB.out.size (by have := HL.out; simp; omega) ?_
          intro v3 wn ho hb hgr hat
          rw [List.nil_append] at ho
          have n_ := Aside0.mk (BK0.out.step hb)
          clear BK
          have BK := n_
          clear HB HO
          have HO := Aside0.mk ho
          have HB := Aside0.mk hb
          clear n_ ho hb hgr hat
          obtain ⟨Ax, cx, rfl⟩ := Kd.R_slice HO.out
          refine hK.out _ _ ⟨(blk_cell BK.out.blk 0).trans rfl, (blk_cell BK.out.blk 1).trans rfl⟩ (fun hHeld => ?_)
          clear hK K
          refine norm_ (a' := ?_) ?_ ?_
          rotate_left
          · show Act.put _ (some 37) _ = _
            simp only [Act.put, List.setIfInBounds_toArray, List.set_cons_zero, List.set_cons_succ, i64_w, i32_w]
            rfl
          refine pure_ (i := 6) (N := some 40) (v := ?_) (a' := ?_) #[true, true, true, true, true, true, true, false, false] rfl rfl (any_of HT_.out (by kernel_rfl)) (fun _ _ _ h => h) (Or.inl ⟨by rfl, ?_⟩) ?_ ?_
          rotate_left
          · intro w'
            go_simp
            with_reducible rfl
          rotate_left
          · simp only [Act.put, List.setIfInBounds_toArray, List.set_cons_zero, List.set_cons_succ, i64_w, i32_w]
            rfl
          refine one_ (i := 7) (N := some 10) #[true, true, true, true, true, true, true, true, false] rfl rfl (one_of HT_.out (by kernel_rfl)) (by decide) (fun K hK => ?_)
          refine box_step ?hg (N := 10) ?hd (cs := #[.slice none 0 0, .int .i64 0]) (t := 24) ?hr ?_; (case hd => rfl); (case hg => rfl); (case hr => first | (go_simp; done) | (go_simp; rfl))
          intro gN hgN wn hbox hb
          have BN := Aside0.mk hbox
          have HGN : Aside0 (ws.heap.size ≤ gN) := ⟨by rw [hgN]; exact HB.out.size⟩
          have n_ := Aside0.mk (BK.out.step hb)
          have m_ := Aside0.mk (below_step HB.out hb)
          have HO' := Aside0.mk (Kd.R_below HO.out hb)
          clear HO
          have HO := HO'
          clear HO'
          clear HB BK
          have HB := m_
          have BK := n_
          clear n_ m_ hb hbox hgN
          refine hK.out _ _ ⟨(blk_cell BK.out.blk 0).trans rfl, (blk_cell BK.out.blk 1).trans rfl⟩ (fun hHeld => ?_)
          clear hK K
          refine norm_ (a' := ?_) ?_ ?_
          rotate_left
          · show Act.put _ (some 10) _ = _
            simp only [Act.put, List.setIfInBounds_toArray, List.set_cons_zero, List.set_cons_succ, i64_w, i32_w]
            rfl
          refine one_ (i := 8) (N := none) #[true, true, true, true, true, true, true, true, true] rfl rfl (one_of HT_.out (by kernel_rfl)) (by decide) (fun K hK => ?_)
          have hs0 : wn.cell? ⟨gN, 0, none⟩ = some (.slice none 0 0) := (blk_cell BN.out 0).trans rfl
          have hs1 : wn.cell? ⟨gN, 1, none⟩ = some (.int .i64 0) := (blk_cell BN.out 1).trans rfl
          have hf0 := blk_frozen BN.out 0
          have hf1 := blk_frozen BN.out 1
          refine skip_ (w1 := ?_) (by rfl) rfl ?_ ?_
          rotate_left
          · go_simp
            rfl
          clear hs0 hs1 hf0 hf1
          have hbn : Below ws.heap.size ws ((wn.setCell ⟨gN, 0, none⟩ (.slice Ax l1.length cx)).setCell ⟨gN, 1, none⟩ (.int .i64 a1)) := below_set (below_set HB.out HGN.out) HGN.out
          have hbk := BK0.out.step hbn
          have hrn := Kd.R_reads' (Kd.R_far (p := ⟨gN, 1, none⟩) (Kd.R_far (p := ⟨gN, 0, none⟩) (Kd.R_types HO.out BN.out (by decide)) (fun _ hk => hk.2) (.slice Ax l1.length cx)) (fun _ hk => hk.2) (.int .i64 a1))
          have hnew : Bx ((wn.setCell ⟨gN, 0, none⟩ (.slice Ax l1.length cx)).setCell ⟨gN, 1, none⟩ (.int .i64 a1)) gN Ax cx l1 a1 := ⟨blk_put (blk_put BN.out 0 (.slice Ax l1.length cx) rfl) 1 (.int .i64 a1) rfl, hrn.2.1, hrn.2.2⟩
          have HN := Aside0.mk (And.intro hnew (below_then hbs.out hbs.out.size hbn))
          refine hK.out _ _ ⟨(blk_cell hbk.blk 0).trans rfl, (blk_cell hbk.blk 1).trans rfl⟩ (fun hHeld => ?_)
          clear hK K hbn hbk hrn hnew hHeld
          refine done_ (done_of HT_.out (by kernel_rfl)) ?_
          go_wp2_with fail
          go_meet
          case rel => exact ⟨gN, Ax, cx, rfl, HN.out.1, HN.out.2⟩
        · skip
          refine box_step ?hg (N := 10) ?hd (cs := #[.slice none 0 0, .int .i64 0]) (t := 24) ?hr ?_; (case hd => rfl); (case hg => rfl); (case hr => first | (go_simp; done) | (go_simp; rfl))
          intro gN hgN wn hbox hb
          have BN := Aside0.mk hbox
          have HGN : Aside0 (ws.heap.size ≤ gN) := ⟨by rw [hgN]; exact HB.out.size⟩
          have n_ := Aside0.mk (BK.out.step hb)
          have m_ := Aside0.mk (below_step HB.out hb)
          have HO' := Aside0.mk (Kd.R_below HO.out hb)
          clear HO
          have HO := HO'
          clear HO'
          clear HB BK
          have HB := m_
          have BK := n_
          clear n_ m_ hb hbox hgN
          refine hK.out _ _ ⟨(blk_cell BK.out.blk 0).trans rfl, (blk_cell BK.out.blk 1).trans rfl⟩ (fun hHeld => ?_)
          clear hK K
          refine norm_ (a' := ?_) ?_ ?_
          rotate_left
          · show Act.put _ (some 10) _ = _
            simp only [Act.put, List.setIfInBounds_toArray, List.set_cons_zero, List.set_cons_succ, i64_w, i32_w]
            rfl
          refine one_ (i := 3) (N := some 37) #[true, true, true, true, true, true, false, true, false] rfl rfl (one_of HT_.out (by kernel_rfl)) (by decide) (fun K hK => ?_)
          refine Kd.R_append_rows_step (Kd.int .i64) (w0 := ws) ws.heap.size (by rfl) (.tmp 34) (.tmp 36) 22 3 (.int .i64 0) 8 rfl Try.underlying22 Man.info3 rfl (by decide) (by omega) v0 ([] : List Int) l1 _ _ _ (fun _ => True) (fun _ => False) rfl rfl HO.out BK.out.rd (fun _ _ h => h) (fun _ h => h.elim) (fun _ _ => trivial) HB.out HB.out.size (by have := HL.out; simp; omega) ?_
          intro v3 wn ho hb hgr hat
          rw [List.nil_append] at ho
          have n_ := Aside0.mk (BK0.out.step hb)
          clear BK
          have BK := n_
          have BN' := Aside0.mk (blk_grown BN.out hgr (Kd.R_ne HO.out BN.out (by decide)))
          clear BN
          have BN := BN'
          clear BN'
          clear HB HO
          have HO := Aside0.mk ho
          have HB := Aside0.mk hb
          clear n_ ho hb hgr hat
          obtain ⟨Ax, cx, rfl⟩ := Kd.R_slice HO.out
          refine hK.out _ _ ⟨(blk_cell BK.out.blk 0).trans rfl, (blk_cell BK.out.blk 1).trans rfl⟩ (fun hHeld => ?_)
          clear hK K
          refine norm_ (a' := ?_) ?_ ?_
          rotate_left
          · show Act.put _ (some 37) _ = _
            simp only [Act.put, List.setIfInBounds_toArray, List.set_cons_zero, List.set_cons_succ, i64_w, i32_w]
            rfl
          refine pure_ (i := 6) (N := some 40) (v := ?_) (a' := ?_) #[true, true, true, true, true, true, true, true, false] rfl rfl (any_of HT_.out (by kernel_rfl)) (fun _ _ _ h => h) (Or.inl ⟨by rfl, ?_⟩) ?_ ?_
          rotate_left
          · intro w'
            go_simp
            with_reducible rfl
          rotate_left
          · simp only [Act.put, List.setIfInBounds_toArray, List.set_cons_zero, List.set_cons_succ, i64_w, i32_w]
            rfl
          refine one_ (i := 8) (N := none) #[true, true, true, true, true, true, true, true, true] rfl rfl (one_of HT_.out (by kernel_rfl)) (by decide) (fun K hK => ?_)
          have hs0 : wn.cell? ⟨gN, 0, none⟩ = some (.slice none 0 0) := (blk_cell BN.out 0).trans rfl
          have hs1 : wn.cell? ⟨gN, 1, none⟩ = some (.int .i64 0) := (blk_cell BN.out 1).trans rfl
          have hf0 := blk_frozen BN.out 0
          have hf1 := blk_frozen BN.out 1
          refine skip_ (w1 := ?_) (by rfl) rfl ?_ ?_
          rotate_left
          · go_simp
            rfl
          clear hs0 hs1 hf0 hf1
          have hbn : Below ws.heap.size ws ((wn.setCell ⟨gN, 0, none⟩ (.slice Ax l1.length cx)).setCell ⟨gN, 1, none⟩ (.int .i64 a1)) := below_set (below_set HB.out HGN.out) HGN.out
          have hbk := BK0.out.step hbn
          have hrn := Kd.R_reads' (Kd.R_far (p := ⟨gN, 1, none⟩) (Kd.R_far (p := ⟨gN, 0, none⟩) (Kd.R_types HO.out BN.out (by decide)) (fun _ hk => hk.2) (.slice Ax l1.length cx)) (fun _ hk => hk.2) (.int .i64 a1))
          have hnew : Bx ((wn.setCell ⟨gN, 0, none⟩ (.slice Ax l1.length cx)).setCell ⟨gN, 1, none⟩ (.int .i64 a1)) gN Ax cx l1 a1 := ⟨blk_put (blk_put BN.out 0 (.slice Ax l1.length cx) rfl) 1 (.int .i64 a1) rfl, hrn.2.1, hrn.2.2⟩
          have HN := Aside0.mk (And.intro hnew (below_then hbs.out hbs.out.size hbn))
          refine hK.out _ _ ⟨(blk_cell hbk.blk 0).trans rfl, (blk_cell hbk.blk 1).trans rfl⟩ (fun hHeld => ?_)
          clear hK K hbn hbk hrn hnew hHeld
          refine done_ (done_of HT_.out (by kernel_rfl)) ?_
          go_wp2_with fail
          go_meet
          case rel => exact ⟨gN, Ax, cx, rfl, HN.out.1, HN.out.2⟩
      · skip
        refine box_step ?hg (N := 10) ?hd (cs := #[.slice none 0 0, .int .i64 0]) (t := 24) ?hr ?_; (case hd => rfl); (case hg => rfl); (case hr => first | (go_simp; done) | (go_simp; rfl))
        intro gN hgN wn hbox hb
        have BN := Aside0.mk hbox
        have HGN : Aside0 (ws.heap.size ≤ gN) := ⟨by rw [hgN]; exact HB.out.size⟩
        have n_ := Aside0.mk (BK.out.step hb)
        have m_ := Aside0.mk (below_step HB.out hb)
        clear HB BK
        have HB := m_
        have BK := n_
        clear n_ m_ hb hbox hgN
        refine hK.out _ _ ⟨(blk_cell BK.out.blk 0).trans rfl, (blk_cell BK.out.blk 1).trans rfl⟩ (fun hHeld => ?_)
        clear hK K
        refine norm_ (a' := ?_) ?_ ?_
        rotate_left
        · show Act.put _ (some 10) _ = _
          simp only [Act.put, List.setIfInBounds_toArray, List.set_cons_zero, List.set_cons_succ, i64_w, i32_w]
          rfl
        refine one_ (i := 0) (N := some 34) #[true, true, true, false, true, true, false, true, false] rfl rfl (one_of HT_.out (by kernel_rfl)) (by decide) (fun K hK => ?_)
        refine Kd.R_lit_step (Kd.int .i64) (w0 := ws) ws.heap.size 3 ?hg (N := 34) ?hd (xs := ([] : List Int)) (inner := []) (ok := fun _ => True) (okp := fun _ => True) ?hr ?hp (fun _ hk => hk) trivial HB.out HB.out.size (by simp) ?_; (case hd => rfl); (case hg => rfl); (case hr => first | (go_simp; done) | (go_simp; rfl)); (case hp => exact (Reps.none _ _))
        intro v0 wn ho hb hgr hnw
        have HO := Aside0.mk ho
        have n_ := Aside0.mk (BK0.out.step hb)
        clear HB BK
        have HB := Aside0.mk hb
        have BK := n_
        have BN' := Aside0.mk (blk_grown BN.out hgr (by simp))
        clear BN
        have BN := BN'
        clear BN'
        clear n_ ho hb hgr hnw
        refine hK.out _ _ ⟨(blk_cell BK.out.blk 0).trans rfl, (blk_cell BK.out.blk 1).trans rfl⟩ (fun hHeld => ?_)
        clear hK K
        refine norm_ (a' := ?_) ?_ ?_
        rotate_left
        · show Act.put _ (some 34) _ = _
          simp only [Act.put, List.setIfInBounds_toArray, List.set_cons_zero, List.set_cons_succ, i64_w, i32_w]
          rfl
        refine one_ (i := 3) (N := some 37) #[true, true, true, true, true, true, false, true, false] rfl rfl (one_of HT_.out (by kernel_rfl)) (by decide) (fun K hK => ?_)
        refine Kd.R_append_rows_step (Kd.int .i64) (w0 := ws) ws.heap.size (by rfl) (.tmp 34) (.tmp 36) 22 3 (.int .i64 0) 8 rfl Try.underlying22 Man.info3 rfl (by decide) (by omega) v0 ([] : List Int) l1 _ _ _ (fun _ => True) (fun _ => False) rfl rfl HO.out BK.out.rd (fun _ _ h => h) (fun _ h => h.elim) (fun _ _ => trivial) HB.out HB.out.size (by have := HL.out; simp; omega) ?_
        intro v3 wn ho hb hgr hat
        rw [List.nil_append] at ho
        have n_ := Aside0.mk (BK0.out.step hb)
        clear BK
        have BK := n_
        have BN' := Aside0.mk (blk_grown BN.out hgr (Kd.R_ne HO.out BN.out (by decide)))
        clear BN
        have BN := BN'
        clear BN'
        clear HB HO
        have HO := Aside0.mk ho
        have HB := Aside0.mk hb
        clear n_ ho hb hgr hat
        obtain ⟨Ax, cx, rfl⟩ := Kd.R_slice HO.out
        refine hK.out _ _ ⟨(blk_cell BK.out.blk 0).trans rfl, (blk_cell BK.out.blk 1).trans rfl⟩ (fun hHeld => ?_)
        clear hK K
        refine norm_ (a' := ?_) ?_ ?_
        rotate_left
        · show Act.put _ (some 37) _ = _
          simp only [Act.put, List.setIfInBounds_toArray, List.set_cons_zero, List.set_cons_succ, i64_w, i32_w]
          rfl
        refine pure_ (i := 6) (N := some 40) (v := ?_) (a' := ?_) #[true, true, true, true, true, true, true, true, false] rfl rfl (any_of HT_.out (by kernel_rfl)) (fun _ _ _ h => h) (Or.inl ⟨by rfl, ?_⟩) ?_ ?_
        rotate_left
        · intro w'
          go_simp
          with_reducible rfl
        rotate_left
        · simp only [Act.put, List.setIfInBounds_toArray, List.set_cons_zero, List.set_cons_succ, i64_w, i32_w]
          rfl
        refine one_ (i := 8) (N := none) #[true, true, true, true, true, true, true, true, true] rfl rfl (one_of HT_.out (by kernel_rfl)) (by decide) (fun K hK => ?_)
        have hs0 : wn.cell? ⟨gN, 0, none⟩ = some (.slice none 0 0) := (blk_cell BN.out 0).trans rfl
        have hs1 : wn.cell? ⟨gN, 1, none⟩ = some (.int .i64 0) := (blk_cell BN.out 1).trans rfl
        have hf0 := blk_frozen BN.out 0
        have hf1 := blk_frozen BN.out 1
        refine skip_ (w1 := ?_) (by rfl) rfl ?_ ?_
        rotate_left
        · go_simp
          rfl
        clear hs0 hs1 hf0 hf1
        have hbn : Below ws.heap.size ws ((wn.setCell ⟨gN, 0, none⟩ (.slice Ax l1.length cx)).setCell ⟨gN, 1, none⟩ (.int .i64 a1)) := below_set (below_set HB.out HGN.out) HGN.out
        have hbk := BK0.out.step hbn
        have hrn := Kd.R_reads' (Kd.R_far (p := ⟨gN, 1, none⟩) (Kd.R_far (p := ⟨gN, 0, none⟩) (Kd.R_types HO.out BN.out (by decide)) (fun _ hk => hk.2) (.slice Ax l1.length cx)) (fun _ hk => hk.2) (.int .i64 a1))
        have hnew : Bx ((wn.setCell ⟨gN, 0, none⟩ (.slice Ax l1.length cx)).setCell ⟨gN, 1, none⟩ (.int .i64 a1)) gN Ax cx l1 a1 := ⟨blk_put (blk_put BN.out 0 (.slice Ax l1.length cx) rfl) 1 (.int .i64 a1) rfl, hrn.2.1, hrn.2.2⟩
        have HN := Aside0.mk (And.intro hnew (below_then hbs.out hbs.out.size hbn))
        refine hK.out _ _ ⟨(blk_cell hbk.blk 0).trans rfl, (blk_cell hbk.blk 1).trans rfl⟩ (fun hHeld => ?_)
        clear hK K hbn hbk hrn hnew hHeld
        refine done_ (done_of HT_.out (by kernel_rfl)) ?_
        go_wp2_with fail
        go_meet
        case rel => exact ⟨gN, Ax, cx, rfl, HN.out.1, HN.out.2⟩
    case rest =>
      obtain ⟨g10, Ay, cy, rfl, hy, hb⟩ := hcut
      obtain ⟨w3, rfl⟩ : ∃ w_ : World, w_ = wc := ⟨_, rfl⟩
      have HY := Aside0.mk hy
      have HX' := HX
      have HX := Aside0.mk (HX'.out.step hb)
      have HS1 := HS
      have HS := Aside0.mk (HS1.out.step hb)
      clear HS1 HX' hy hb
      obtain ⟨B, hB⟩ : ∃ B, B = w3.heap.size := ⟨_, rfl⟩
      have HBz : Aside0 (Below B w3 w3) := ⟨Below.refl _ _⟩
      have HBB := Aside0.mk hB
      clear hB
      go_wp2_with fail
      go_loopg [41, 11] 2 (fun kq iq v wr => ∃ q : Nat, q + kq = 2 ∧ iq = .int .i64 q ∧ Below B w3 wr ∧ LR B wr v (6 * q))
      case atStart => exact ⟨0, rfl, rfl, HBz.out, LR.nil _ _⟩
      case round =>
        obtain ⟨q, hq, rfl, hbw, hlr⟩ := hrel
        obtain ⟨kq, rfl⟩ : ∃ k_ : Nat, k_ = gk := ⟨_, rfl⟩
        have HQ := Aside0.mk hq
        have HA := Aside0.mk (HS.out.step (by rw [HBB.out] at hbw; exact hbw))
        have HX2 := Aside0.mk (HX.out.step (by rw [HBB.out] at hbw; exact hbw))
        have HY2 := Aside0.mk (HY.out.step (by rw [HBB.out] at hbw; exact hbw))
        have HBw := Aside0.mk hbw
        have HLR := Aside0.mk hlr
        have HBs : Aside0 (B ≤ wr.heap.size) := ⟨by rw [HBB.out] at hbw ⊢; exact hbw.size⟩
        clear hq hbw hlr
        by_cases hlt : q < 2
        · skip
          obtain ⟨r1, r2, r3, hr⟩ := HF.out.1
          have HR := Aside0.mk hr
          clear hr
          obtain ⟨c40, c41⟩ := HA.out.x4.cells
          obtain ⟨c50, c51⟩ := HA.out.x5.cells
          go_wp2_with fail
          (with_reducible refine (Ad.lin_Add.calls k A0 c0 l0 a0 A1 c1 l1 a1 r1 r2 r3 _ HA.out.x4.rd HA.out.x4.cap HA.out.x5.rd HA.out.x5.cap HR.out).mono ?_)
          rintro e' u0_ ⟨v_, rfl, hR, hb⟩
          obtain ⟨P0, e0, rfl⟩ := Kd.R_slice hR
          obtain ⟨n0, hn0⟩ : ∃ n_ : Nat, n_ = r1.length := ⟨_, rfl⟩
          rw [← hn0] at hR ⊢
          clear hn0
          obtain ⟨k0, hk0⟩ : ∃ k_ : Int, k_ = r2 := ⟨_, rfl⟩
          rw [← hk0]
          clear hk0
          go_upto_region 7 with fail
          obtain ⟨g0', hg'⟩ : ∃ g_, g_ = u0_.heap.size := ⟨_, rfl⟩
          obtain ⟨v0_, hv'⟩ : ∃ w_, w_ = u0_.alloc (.cells #[.slice P0 n0 e0, .int .i64 k0] 24) := ⟨_, rfl⟩
          rw [← hv', ← hg']
          have hb2 : Below u0_.heap.size u0_ v0_ := by rw [hv']; exact below_alloc (Below.refl _ _) _
          have hr0 : Rs B v0_ g0' P0 n0 e0 k0 := ⟨by rw [hv', hg']; exact blk_new _ _, (sm_of_R hR HBs.out).step hb2⟩
          have HR0 := Aside0.mk hr0
          have m1_ := Aside0.mk ((HA.out.step hb).step hb2)
          have m2_ := Aside0.mk ((HX2.out.step hb).step hb2)
          have m3_ := Aside0.mk ((HY2.out.step hb).step hb2)
          have m4_ := Aside0.mk ((HLR.out.step hb).step hb2)
          have m5_ : Aside0 (B ≤ v0_.heap.size) := ⟨Nat.le_trans (Nat.le_trans HBs.out hb.size) hb2.size⟩
          have m6_ : Aside0 (Below B w3 v0_) := ⟨below_then (below_then HBw.out HBs.out hb) (Nat.le_trans HBs.out hb.size) hb2⟩
          clear hR hb hb2 hr0 hg' hv' c40 c41 c50 c51 HA HX2 HY2 HLR HBs HBw HR 
          have HA := m1_
          have HX2 := m2_
          have HY2 := m3_
          have HLR := m4_
          have HBs := m5_
          have HBw := m6_
          clear m1_ m2_ m3_ m4_ m5_ m6_
          obtain ⟨r1, r2, r3, hr⟩ := HF.out.2.1
          have HR := Aside0.mk hr
          clear hr
          obtain ⟨c40, c41⟩ := HA.out.x4.cells
          obtain ⟨c50, c51⟩ := HA.out.x5.cells
          go_wp2_with fail
          (with_reducible refine (Ad.lin_Sub.calls k A0 c0 l0 a0 A1 c1 l1 a1 r1 r2 r3 _ HA.out.x4.rd HA.out.x4.cap HA.out.x5.rd HA.out.x5.cap HR.out).mono ?_)
          rintro e' u1_ ⟨v_, rfl, hR, hb⟩
          obtain ⟨P1, e1, rfl⟩ := Kd.R_slice hR
          obtain ⟨n1, hn1⟩ : ∃ n_ : Nat, n_ = r1.length := ⟨_, rfl⟩
          rw [← hn1] at hR ⊢
          clear hn1
          obtain ⟨k1, hk1⟩ : ∃ k_ : Int, k_ = r2 := ⟨_, rfl⟩
          rw [← hk1]
          clear hk1
          go_upto_region 8 with fail
          obtain ⟨g1', hg'⟩ : ∃ g_, g_ = u1_.heap.size := ⟨_, rfl⟩
          obtain ⟨v1_, hv'⟩ : ∃ w_, w_ = u1_.alloc (.cells #[.slice P1 n1 e1, .int .i64 k1] 24) := ⟨_, rfl⟩
          rw [← hv', ← hg']
          have hb2 : Below u1_.heap.size u1_ v1_ := by rw [hv']; exact below_alloc (Below.refl _ _) _
          have hr1 : Rs B v1_ g1' P1 n1 e1 k1 := ⟨by rw [hv', hg']; exact blk_new _ _, (sm_of_R hR HBs.out).step hb2⟩
          have HR1 := Aside0.mk hr1
          have m1_ := Aside0.mk ((HA.out.step hb).step hb2)
          have m2_ := Aside0.mk ((HX2.out.step hb).step hb2)
          have m3_ := Aside0.mk ((HY2.out.step hb).step hb2)
          have m4_ := Aside0.mk ((HLR.out.step hb).step hb2)
          have m5_ : Aside0 (B ≤ v1_.heap.size) := ⟨Nat.le_trans (Nat.le_trans HBs.out hb.size) hb2.size⟩
          have m6_ : Aside0 (Below B w3 v1_) := ⟨below_then (below_then HBw.out HBs.out hb) (Nat.le_trans HBs.out hb.size) hb2⟩
          have p0_ := Aside0.mk ((HR0.out.step hb).step hb2)
          clear hR hb hb2 hr1 hg' hv' c40 c41 c50 c51 HA HX2 HY2 HLR HBs HBw HR HR0
          have HA := m1_
          have HX2 := m2_
          have HY2 := m3_
          have HLR := m4_
          have HBs := m5_
          have HBw := m6_
          clear m1_ m2_ m3_ m4_ m5_ m6_
          have HR0 := p0_
          clear p0_
          obtain ⟨r1, r2, r3, hr⟩ := HF.out.2.2.1
          have HR := Aside0.mk hr
          clear hr
          obtain ⟨c40, c41⟩ := HA.out.x4.cells
          obtain ⟨c50, c51⟩ := HA.out.x5.cells
          go_wp2_with fail
          (with_reducible refine (Sc.lin_Scale.calls k A0 c0 l0 a0 kk r1 r2 r3 _ HA.out.x4.rd HA.out.x4.cap HR.out).mono ?_)
          rintro e' u2_ ⟨v_, rfl, hR, hb⟩
          obtain ⟨P2, e2, rfl⟩ := Kd.R_slice hR
          obtain ⟨n2, hn2⟩ : ∃ n_ : Nat, n_ = r1.length := ⟨_, rfl⟩
          rw [← hn2] at hR ⊢
          clear hn2
          obtain ⟨k2, hk2⟩ : ∃ k_ : Int, k_ = r2 := ⟨_, rfl⟩
          rw [← hk2]
          clear hk2
          go_upto_region 9 with fail
          obtain ⟨g2', hg'⟩ : ∃ g_, g_ = u2_.heap.size := ⟨_, rfl⟩
          obtain ⟨v2_, hv'⟩ : ∃ w_, w_ = u2_.alloc (.cells #[.slice P2 n2 e2, .int .i64 k2] 24) := ⟨_, rfl⟩
          rw [← hv', ← hg']
          have hb2 : Below u2_.heap.size u2_ v2_ := by rw [hv']; exact below_alloc (Below.refl _ _) _
          have hr2 : Rs B v2_ g2' P2 n2 e2 k2 := ⟨by rw [hv', hg']; exact blk_new _ _, (sm_of_R hR HBs.out).step hb2⟩
          have HR2 := Aside0.mk hr2
          have m1_ := Aside0.mk ((HA.out.step hb).step hb2)
          have m2_ := Aside0.mk ((HX2.out.step hb).step hb2)
          have m3_ := Aside0.mk ((HY2.out.step hb).step hb2)
          have m4_ := Aside0.mk ((HLR.out.step hb).step hb2)
          have m5_ : Aside0 (B ≤ v2_.heap.size) := ⟨Nat.le_trans (Nat.le_trans HBs.out hb.size) hb2.size⟩
          have m6_ : Aside0 (Below B w3 v2_) := ⟨below_then (below_then HBw.out HBs.out hb) (Nat.le_trans HBs.out hb.size) hb2⟩
          have p0_ := Aside0.mk ((HR0.out.step hb).step hb2)
          have p1_ := Aside0.mk ((HR1.out.step hb).step hb2)
          clear hR hb hb2 hr2 hg' hv' c40 c41 c50 c51 HA HX2 HY2 HLR HBs HBw HR HR0 HR1
          have HA := m1_
          have HX2 := m2_
          have HY2 := m3_
          have HLR := m4_
          have HBs := m5_
          have HBw := m6_
          clear m1_ m2_ m3_ m4_ m5_ m6_
          have HR0 := p0_
          clear p0_
          have HR1 := p1_
          clear p1_
          obtain ⟨r1, r2, r3, hr⟩ := HF.out.2.2.2.1
          have HR := Aside0.mk hr
          clear hr
          obtain ⟨c40, c41⟩ := HA.out.x4.cells
          obtain ⟨c50, c51⟩ := HA.out.x5.cells
          go_wp2_with fail
          (with_reducible refine (Pu.lin_Put.calls k A0 c0 l0 a0 i A1 c1 l1 a1 r1 r2 r3 _ HA.out.x4.rd HA.out.x4.cap HA.out.x5.rd HA.out.x5.cap HR.out).mono ?_)
          rintro e' u3_ ⟨v_, rfl, hR, hb⟩
          obtain ⟨P3, e3, rfl⟩ := Kd.R_slice hR
          obtain ⟨n3, hn3⟩ : ∃ n_ : Nat, n_ = r1.length := ⟨_, rfl⟩
          rw [← hn3] at hR ⊢
          clear hn3
          obtain ⟨k3, hk3⟩ : ∃ k_ : Int, k_ = r2 := ⟨_, rfl⟩
          rw [← hk3]
          clear hk3
          go_upto_region 10 with fail
          obtain ⟨g3', hg'⟩ : ∃ g_, g_ = u3_.heap.size := ⟨_, rfl⟩
          obtain ⟨v3_, hv'⟩ : ∃ w_, w_ = u3_.alloc (.cells #[.slice P3 n3 e3, .int .i64 k3] 24) := ⟨_, rfl⟩
          rw [← hv', ← hg']
          have hb2 : Below u3_.heap.size u3_ v3_ := by rw [hv']; exact below_alloc (Below.refl _ _) _
          have hr3 : Rs B v3_ g3' P3 n3 e3 k3 := ⟨by rw [hv', hg']; exact blk_new _ _, (sm_of_R hR HBs.out).step hb2⟩
          have HR3 := Aside0.mk hr3
          have m1_ := Aside0.mk ((HA.out.step hb).step hb2)
          have m2_ := Aside0.mk ((HX2.out.step hb).step hb2)
          have m3_ := Aside0.mk ((HY2.out.step hb).step hb2)
          have m4_ := Aside0.mk ((HLR.out.step hb).step hb2)
          have m5_ : Aside0 (B ≤ v3_.heap.size) := ⟨Nat.le_trans (Nat.le_trans HBs.out hb.size) hb2.size⟩
          have m6_ : Aside0 (Below B w3 v3_) := ⟨below_then (below_then HBw.out HBs.out hb) (Nat.le_trans HBs.out hb.size) hb2⟩
          have p0_ := Aside0.mk ((HR0.out.step hb).step hb2)
          have p1_ := Aside0.mk ((HR1.out.step hb).step hb2)
          have p2_ := Aside0.mk ((HR2.out.step hb).step hb2)
          clear hR hb hb2 hr3 hg' hv' c40 c41 c50 c51 HA HX2 HY2 HLR HBs HBw HR HR0 HR1 HR2
          have HA := m1_
          have HX2 := m2_
          have HY2 := m3_
          have HLR := m4_
          have HBs := m5_
          have HBw := m6_
          clear m1_ m2_ m3_ m4_ m5_ m6_
          have HR0 := p0_
          clear p0_
          have HR1 := p1_
          clear p1_
          have HR2 := p2_
          clear p2_
          obtain ⟨r1, r2, r3, hr⟩ := HF.out.2.2.2.2.1
          have HR := Aside0.mk hr
          clear hr
          obtain ⟨c40, c41⟩ := HA.out.x4.cells
          obtain ⟨c50, c51⟩ := HA.out.x5.cells
          go_wp2_with fail
          (with_reducible refine (Cr.lin_Cut.calls k A0 c0 l0 a0 i r1 r2 r3 _ HA.out.x4.rd HA.out.x4.cap HR.out).mono ?_)
          rintro e' u4_ ⟨v_, rfl, hR, hb⟩
          obtain ⟨P4, e4, rfl⟩ := Kd.R_slice hR
          obtain ⟨n4, hn4⟩ : ∃ n_ : Nat, n_ = r1.length := ⟨_, rfl⟩
          rw [← hn4] at hR ⊢
          clear hn4
          obtain ⟨k4, hk4⟩ : ∃ k_ : Int, k_ = r2 := ⟨_, rfl⟩
          rw [← hk4]
          clear hk4
          go_upto_region 11 with fail
          obtain ⟨g4', hg'⟩ : ∃ g_, g_ = u4_.heap.size := ⟨_, rfl⟩
          obtain ⟨v4_, hv'⟩ : ∃ w_, w_ = u4_.alloc (.cells #[.slice P4 n4 e4, .int .i64 k4] 24) := ⟨_, rfl⟩
          rw [← hv', ← hg']
          have hb2 : Below u4_.heap.size u4_ v4_ := by rw [hv']; exact below_alloc (Below.refl _ _) _
          have hr4 : Rs B v4_ g4' P4 n4 e4 k4 := ⟨by rw [hv', hg']; exact blk_new _ _, (sm_of_R hR HBs.out).step hb2⟩
          have HR4 := Aside0.mk hr4
          have m1_ := Aside0.mk ((HA.out.step hb).step hb2)
          have m2_ := Aside0.mk ((HX2.out.step hb).step hb2)
          have m3_ := Aside0.mk ((HY2.out.step hb).step hb2)
          have m4_ := Aside0.mk ((HLR.out.step hb).step hb2)
          have m5_ : Aside0 (B ≤ v4_.heap.size) := ⟨Nat.le_trans (Nat.le_trans HBs.out hb.size) hb2.size⟩
          have m6_ : Aside0 (Below B w3 v4_) := ⟨below_then (below_then HBw.out HBs.out hb) (Nat.le_trans HBs.out hb.size) hb2⟩
          have p0_ := Aside0.mk ((HR0.out.step hb).step hb2)
          have p1_ := Aside0.mk ((HR1.out.step hb).step hb2)
          have p2_ := Aside0.mk ((HR2.out.step hb).step hb2)
          have p3_ := Aside0.mk ((HR3.out.step hb).step hb2)
          clear hR hb hb2 hr4 hg' hv' c40 c41 c50 c51 HA HX2 HY2 HLR HBs HBw HR HR0 HR1 HR2 HR3
          have HA := m1_
          have HX2 := m2_
          have HY2 := m3_
          have HLR := m4_
          have HBs := m5_
          have HBw := m6_
          clear m1_ m2_ m3_ m4_ m5_ m6_
          have HR0 := p0_
          clear p0_
          have HR1 := p1_
          clear p1_
          have HR2 := p2_
          clear p2_
          have HR3 := p3_
          clear p3_
          obtain ⟨r1, r2, r3, hr⟩ := HF.out.2.2.2.2.2
          have HR := Aside0.mk hr
          clear hr
          obtain ⟨c40, c41⟩ := HA.out.x4.cells
          obtain ⟨c50, c51⟩ := HA.out.x5.cells
          go_wp2_with fail
          (with_reducible refine (Cr.lin_Room.calls k A0 c0 l0 a0 i kk r1 r2 r3 _ HA.out.x4.rd HA.out.x4.cap HR.out).mono ?_)
          rintro e' u5_ ⟨v_, rfl, hR, hb⟩
          obtain ⟨P5, e5, rfl⟩ := Kd.R_slice hR
          obtain ⟨n5, hn5⟩ : ∃ n_ : Nat, n_ = r1.length := ⟨_, rfl⟩
          rw [← hn5] at hR ⊢
          clear hn5
          obtain ⟨k5, hk5⟩ : ∃ k_ : Int, k_ = r2 := ⟨_, rfl⟩
          rw [← hk5]
          clear hk5
          go_upto_region 12 with fail
          obtain ⟨g5', hg'⟩ : ∃ g_, g_ = u5_.heap.size := ⟨_, rfl⟩
          obtain ⟨v5_, hv'⟩ : ∃ w_, w_ = u5_.alloc (.cells #[.slice P5 n5 e5, .int .i64 k5] 24) := ⟨_, rfl⟩
          rw [← hv', ← hg']
          have hb2 : Below u5_.heap.size u5_ v5_ := by rw [hv']; exact below_alloc (Below.refl _ _) _
          have hr5 : Rs B v5_ g5' P5 n5 e5 k5 := ⟨by rw [hv', hg']; exact blk_new _ _, (sm_of_R hR HBs.out).step hb2⟩
          have HR5 := Aside0.mk hr5
          have m1_ := Aside0.mk ((HA.out.step hb).step hb2)
          have m2_ := Aside0.mk ((HX2.out.step hb).step hb2)
          have m3_ := Aside0.mk ((HY2.out.step hb).step hb2)
          have m4_ := Aside0.mk ((HLR.out.step hb).step hb2)
          have m5_ : Aside0 (B ≤ v5_.heap.size) := ⟨Nat.le_trans (Nat.le_trans HBs.out hb.size) hb2.size⟩
          have m6_ : Aside0 (Below B w3 v5_) := ⟨below_then (below_then HBw.out HBs.out hb) (Nat.le_trans HBs.out hb.size) hb2⟩
          have p0_ := Aside0.mk ((HR0.out.step hb).step hb2)
          have p1_ := Aside0.mk ((HR1.out.step hb).step hb2)
          have p2_ := Aside0.mk ((HR2.out.step hb).step hb2)
          have p3_ := Aside0.mk ((HR3.out.step hb).step hb2)
          have p4_ := Aside0.mk ((HR4.out.step hb).step hb2)
          clear hR hb hb2 hr5 hg' hv' c40 c41 c50 c51 HA HX2 HY2 HLR HBs HBw HR HR0 HR1 HR2 HR3 HR4
          have HA := m1_
          have HX2 := m2_
          have HY2 := m3_
          have HLR := m4_
          have HBs := m5_
          have HBw := m6_
          clear m1_ m2_ m3_ m4_ m5_ m6_
          have HR0 := p0_
          clear p0_
          have HR1 := p1_
          clear p1_
          have HR2 := p2_
          clear p2_
          have HR3 := p3_
          clear p3_
          have HR4 := p4_
          clear p4_
          obtain ⟨z0a, z0b⟩ := HR0.out.cells
          obtain ⟨z1a, z1b⟩ := HR1.out.cells
          obtain ⟨z2a, z2b⟩ := HR2.out.cells
          obtain ⟨z3a, z3b⟩ := HR3.out.cells
          obtain ⟨z4a, z4b⟩ := HR4.out.cells
          obtain ⟨z5a, z5b⟩ := HR5.out.cells
          obtain ⟨inner, hown, hrows⟩ := HLR.out
          obtain ⟨wl, hwl⟩ : ∃ wl, wl = v5_.alloc (.cells #[.slice P0 n0 e0, .int .i64 k0, .slice P1 n1 e1, .int .i64 k1, .slice P2 n2 e2, .int .i64 k2, .slice P3 n3 e3, .int .i64 k3, .slice P4 n4 e4, .int .i64 k4, .slice P5 n5 e5, .int .i64 k5] 24) := ⟨_, rfl⟩
          have hbl : Below v5_.heap.size v5_ wl := by rw [hwl]; exact below_alloc (Below.refl _ _) _
          have hblk : wl.heap[v5_.heap.size]? = some (.cells #[.slice P0 n0 e0, .int .i64 k0, .slice P1 n1 e1, .int .i64 k1, .slice P2 n2 e2, .int .i64 k2, .slice P3 n3 e3, .int .i64 k3, .slice P4 n4 e4, .int .i64 k4, .slice P5 n5 e5, .int .i64 k5] 24 (0, 0)) := by rw [hwl]; exact blk_new _ _
          have HO := Aside0.mk (pw_own_below hown hbl)
          have HRW := Aside0.mk (fun j hj => by
            obtain ⟨A, m, c, K, h1, h2, h3⟩ := hrows j hj
            exact (⟨A, m, c, K, h1, h2, h3.step hbl⟩ : ∃ A m c K, inner[j * 2]? = some (.slice A m c) ∧ inner[j * 2 + 1]? = some (.int .i64 K) ∧ Sm B wl A m c))
          have HBL := Aside0.mk hbl
          have HBK := Aside0.mk hblk
          have HWL := Aside0.mk hwl
          have HLT := Aside0.mk hlt
          have HBl : Aside0 (B ≤ wl.heap.size) := ⟨Nat.le_trans HBs.out hbl.size⟩
          obtain ⟨i24, hi24, hz24, hs24, hb24⟩ := info_parts info24
          clear hown hrows hbl hblk hwl HLR
          go_upto_region 13 with ((with_reducible refine gate_dst (N := 89) rfl ?_); rw [← HWL.out]; refine wpList_append_own wl rfl (.tmp 81) (.tmp 88) 45 rfl B 24 i24 (.agg #[.slice none 0 0, .int .i64 0]) 2 32 Try.underlying45 hi24 hz24 hs24 hb24 rfl (by decide) _ (6 * q) inner rfl HO.out ⟨v5_.heap.size, 0, none⟩ 6 6 [.slice P0 n0 e0, .int .i64 k0, .slice P1 n1 e1, .int .i64 k1, .slice P2 n2 e2, .int .i64 k2, .slice P3 n3 e3, .int .i64 k3, .slice P4 n4 e4, .int .i64 k4, .slice P5 n5 e5, .int .i64 k5] rfl rfl ?c1 ?c2 ?c3 ?c4 ?c5 ?_; (case c1 => intro j u hj; rw [add_plain, blk_cell HBK.out]; simpa using hj); (case c2 => intro u hu; simp at hu; rcases hu with rfl | rfl | rfl | rfl | rfl | rfl | rfl | rfl | rfl | rfl | rfl | rfl <;> rfl); (case c3 => have := HLT.out; simp only [maxLen]; omega); (case c4 => have := HLT.out; omega); (case c5 => exact HBl.out); intro vl wg ho' hg' _; have HG := Aside0.mk hg'; have HO' := Aside0.mk ho'; clear ho' hg')
          have HLn := Aside0.mk (LR.app HO.out HRW.out (((HR0.out.sm).step HBL.out)) (((HR1.out.sm).step HBL.out)) (((HR2.out.sm).step HBL.out)) (((HR3.out.sm).step HBL.out)) (((HR4.out.sm).step HBL.out)) (((HR5.out.sm).step HBL.out)) HO'.out HG.out)
          have hbg : Below B w3 wg := (below_then HBw.out HBs.out HBL.out).grown HG.out HBl.out (fun k hk => own_base HO.out k hk)
          obtain ⟨gv, cv, rfl, hcv, hgv⟩ := HO'.out.form (by omega)
          have HBg := Aside0.mk hbg
          have HBgs : Aside0 (B ≤ wg.heap.size) := ⟨by rw [HBB.out] at hbg ⊢; exact hbg.size⟩
          clear HR0 HR1 HR2 HR3 HR4 HR5 HO HRW HBL HBK HWL HBl HBs HBw HA HX2 HY2 HG hbg z0a z0b z1a z1b z2a z2b z3a z3b z4a z4b z5a z5b hi24 hz24 hs24 hb24 HO' hcv hgv
          obtain ⟨N, hN⟩ : ∃ N, N = 6 * q + 6 := ⟨_, rfl⟩
          rw [← hN] at HLn ⊢
          have HN := Aside0.mk hN
          have hNb : N ≤ 18 := by have := HLT.out; omega
          clear hN hlt
          go_wp2_with fail
          go_loopg [92] N (fun km im wm => ∃ p : Nat, p + km = N ∧ im = .int .i64 p ∧ Below B w3 wm ∧ LR B wm (.slice (some ⟨gv, 0, none⟩) N cv) N)
          case atStart => exact ⟨0, by omega, rfl, HBg.out, HLn.out⟩
          case round =>
            obtain ⟨p, hp, rfl, hbw, hlr⟩ := hrel
            obtain ⟨wp, rfl⟩ : ∃ w_ : World, w_ = wr := ⟨_, rfl⟩
            obtain ⟨kp, rfl⟩ : ∃ k_ : Nat, k_ = gk := ⟨_, rfl⟩
            have HP := Aside0.mk hp
            have HBw := Aside0.mk hbw
            have HLR := Aside0.mk hlr
            have HBs : Aside0 (B ≤ wp.heap.size) := ⟨by rw [HBB.out] at hbw ⊢; exact hbw.size⟩
            clear hp hbw hlr
            by_cases hlt : p < N
            · obtain ⟨inner, hown, hrows⟩ := HLR.out
              obtain ⟨A, m, c, K, hi0, hi1, hsm⟩ := hrows p hlt
              have d0 : wp.cell? ⟨gv, p * 2, none⟩ = some (.slice A m c) := by have h := hown.cells (g := gv) rfl _ _ hi0; rw [add_plain] at h; exact h
              have d1 : wp.cell? ⟨gv, p * 2 + 1, none⟩ = some (.int .i64 K) := by have h := hown.cells (g := gv) rfl _ _ hi1; rw [add_plain] at h; exact h
              have HSM := Aside0.mk hsm
              have hltb : (p : Int) < (N : Int) := by omega
              have hltd : decide ((p : Int) < (N : Int)) = true := decide_eq_true hltb
              have HLT2 := Aside0.mk hlt
              have hpb : (p : Int) ≤ 17 := by omega
              clear hown hrows hi0 hi1 hsm hlt
              go_wp2_with fail
              obtain ⟨wi, hwi⟩ : ∃ wi, wi = wp.alloc (.cells #[.slice A m c, .int .i64 K] 24) := ⟨_, rfl⟩
              obtain ⟨gb, hgb⟩ : ∃ gb, gb = wp.heap.size := ⟨_, rfl⟩
              rw [← hwi, ← hgb]
              have hbi : Below wp.heap.size wp wi := by rw [hwi]; exact below_alloc (Below.refl _ _) _
              have hbk : wi.heap[gb]? = some (.cells #[.slice A m c, .int .i64 K] 24 (0, 0)) := by rw [hwi, hgb]; exact blk_new _ _
              have HBi := Aside0.mk (below_then HBw.out HBs.out hbi)
              have HLi := Aside0.mk (HLR.out.step hbi)
              have HSi := Aside0.mk (HSM.out.step hbi)
              have HKi := Aside0.mk hbk
              clear hwi hgb hbi hbk d0 d1 HSM HLR HBw HBs hltb hltd
              go_loopg [99] m (fun kt it wt => ∃ t : Nat, t + kt = m ∧ it = .int .i64 t ∧ Below B w3 wt ∧ LR B wt (.slice (some ⟨gv, 0, none⟩) N cv) N ∧ Sm B wt A m c ∧ wt.heap[gb]? = some (.cells #[.slice A m c, .int .i64 K] 24 (0, 0)))
              case atStart => exact ⟨0, by omega, rfl, HBi.out, HLi.out, HSi.out, HKi.out⟩
              case round =>
                obtain ⟨t, ht, rfl, hbw, hlr, hsm, hbk⟩ := hrel
                obtain ⟨wt, rfl⟩ : ∃ w_ : World, w_ = wr := ⟨_, rfl⟩
                obtain ⟨kt, rfl⟩ : ∃ k_ : Nat, k_ = gk := ⟨_, rfl⟩
                have HT := Aside0.mk ht
                have HBw := Aside0.mk hbw
                have hm63 : (m : Int) ≤ 9223372036854775807 := by have := hsm.1; have := hsm.2.1; omega
                have b0 : wt.cell? ⟨gb, 0, none⟩ = some (.slice A m c) := (blk_cell hbk 0).trans rfl
                have b1 : wt.cell? ⟨gb, 1, none⟩ = some (.int .i64 K) := (blk_cell hbk 1).trans rfl
                clear ht hbw
                by_cases hlt : t < m
                · obtain ⟨g, cur, rfl, hgB, hh, hs⟩ := hsm.2.2 (by omega)
                  have hltd : decide ((t : Int) < (m : Int)) = true := decide_eq_true (by omega)
                  have hltb : (t : Int) < (m : Int) := by omega
                  obtain ⟨cv_, hc7⟩ : ∃ cv_, wt.cell? ⟨g, t, none⟩ = some cv_ := ⟨_, by rw [blk_cell hh, Array.getElem?_eq_getElem (show t < cur.size by omega)]⟩
                  have hf7 : wt.frozen? ⟨g, t, none⟩ = false := blk_frozen hh _
                  have HE := Aside0.mk (And.intro (hlr.set (j := t) (u := .int .i64 12345) hh) (And.intro (hsm.set (j := t) (u := .int .i64 12345) hh) (And.intro ((Below.heap_setCell wt ⟨g, t, none⟩ (.int .i64 12345) gb (blkne hbk hh (by decide))).trans hbk) (HBw.out.setCell (p := ⟨g, t, none⟩) hgB (.int .i64 12345)))))
                  clear hlr hsm hbk hh hs hgB
                  have HLT3 := Aside0.mk hlt
                  clear hlt
                  go_wp2_with fail
                  go_roundg (kt - 1)
                  case measure => have := HT.out; have := HLT3.out; omega
                  case rel => exact ⟨t + 1, by have := HT.out; have := HLT3.out; omega, by go_num, HE.out.2.2.2, HE.out.1, HE.out.2.1, HE.out.2.2.1⟩
                · have hltd : decide ((t : Int) < (m : Int)) = false := decide_eq_false (by omega)
                  have hltb : ¬ ((t : Int) < (m : Int)) := by omega
                  have HLR3 := Aside0.mk hlr
                  clear hlt hlr hsm hbk
                  go_wp2_with fail
                  go_roundg (kp - 1)
                  case measure => have := HP.out; have := HLT2.out; omega
                  case rel => exact ⟨p + 1, by have := HP.out; have := HLT2.out; omega, by go_num, HBw.out, HLR3.out⟩
            · have hltd : decide ((p : Int) < (N : Int)) = false := decide_eq_false (by omega)
              have hltb : ¬ ((p : Int) < (N : Int)) := by omega
              clear hlt
              go_wp2_with fail
              go_roundg (kq - 1)
              case measure => have := HQ.out; have := HLT.out; omega
              case rel => exact ⟨q + 1, by have := HQ.out; have := HLT.out; omega, by go_num, HBw.out, (show 6 * (q + 1) = N by have := HN.out; omega) ▸ HLR.out⟩
        · skip
          have hq2 : q = 2 := by have := HQ.out; omega
          subst hq2
          clear hlt
          obtain ⟨x40, x41⟩ := HA.out.x4.cells
          obtain ⟨x50, x51⟩ := HA.out.x5.cells
          obtain ⟨x90, x91⟩ := HX2.out.cells
          obtain ⟨x100, x101⟩ := HY2.out.cells
          go_wp2_with fail
          (with_reducible refine (Bs.headlandref02_Same.calls k A0 c0 l0 a0 Ax cx l0 a0 true _ HA.out.x4.rd HA.out.x4.cap HX2.out.rd HX2.out.cap HW.out.2.1).mono ?_)
          rintro e' wa ⟨rfl, hb⟩
          have HA' := Aside0.mk (HA.out.step hb)
          have HY' := Aside0.mk (HY2.out.step hb)
          clear hb HA HX2 HY2 x40 x41 x50 x51 x90 x91 x100 x101
          obtain ⟨x50, x51⟩ := HA'.out.x5.cells
          obtain ⟨x100, x101⟩ := HY'.out.cells
          go_wp2_with fail
          (with_reducible refine (Bs.headlandref02_Same.calls k A1 c1 l1 a1 Ay cy l1 a1 true _ HA'.out.x5.rd HA'.out.x5.cap HY'.out.rd HY'.out.cap HW.out.2.2).mono ?_)
          rintro e' wb ⟨rfl, hb⟩
          have HA2 := Aside0.mk (HA'.out.step hb)
          clear hb HA' HY' x50 x51 x100 x101
          go_wp2_with fail
          (with_reducible refine (Bs.headlandlaw02_awake.calls k true _ HW.out.1).mono ?_)
          rintro e' wd ⟨rfl, hb⟩
          have HA3 := Aside0.mk (HA2.out.step hb)
          clear hb HA2
          go_wp2_with fail
          go_ret
          exact ⟨rfl, HA3.out.below⟩
end Go.Proofs.Ytmafphfajgoojaa.Ow
