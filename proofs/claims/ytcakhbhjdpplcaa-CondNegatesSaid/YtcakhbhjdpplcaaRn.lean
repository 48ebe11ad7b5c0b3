/- The walk of the reference's Negate: what it answers, if the laws of the functions that it calls hold. -/
import Derived.Test.YtcakhbhjdpplcaaNw
import Derived.Test.YtcakhbhjdpplcaaMx1
import Derived.Test.YtcakhbhjdpplcaaAa8
import Derived.Test.YtcakhbhjdpplcaaLpYn
namespace Go.Proofs.Ytcakhbhjdpplcaa.Rn
open Go.RowKit Go.Proofs.Ytcakhbhjdpplcaa Go.Proofs.YtcakhbhjdpplcaaW.PrintWords Go.Proofs.YtcakhbhjdpplcaaW.PrintLast Go.Proofs.YtcakhbhjdpplcaaW.PrintMore Go.Proofs.Ytcakhbhjdpplcaa.Kc Go.Proofs.Ytcakhbhjdpplcaa.Nw
set_option linter.unusedVariables false
set_option linter.unusedSimpArgs false
/-- A row of numbers whose block holds numbers: no row of structs is written over it. -/
def Ic (W : World) (A : Option Addr) (xs : List Int) : Prop := Kd.F (Kd.int .i64) W (fun k => ∃ cells, W.heap[k]? = some (.cells cells 3 (0, 0))) A xs.length xs
theorem Ic.now {W : World} {A : Option Addr} {xs : List Int} (h : Ic W A xs) : Kd.C (Kd.int .i64) W A xs.length xs := Kd.F_now h
theorem Ic.step {W W' : World} {A : Option Addr} {xs : List Int} (h : Ic W A xs) (hb : Below W.heap.size W W') : Ic W' A xs :=
 Kd.F_mono (Kd.F_below h hb) (fun k hk => by obtain ⟨c, hc⟩ := hk; exact ⟨c, blk_below hc hb⟩)
theorem Ic.grow {W W' : World} {A : Option Addr} {xs : List Int} {row : Option Nat} (h : Ic W A xs) (hg : W.grownBy W' row) (hne : ∀ g cur, W.heap[g]? = some (.cells cur 3 (0, 0)) → some g ≠ row) : Ic W' A xs :=
 Kd.F_mono (Kd.F_grown h hg (fun k hk => by obtain ⟨c, hc⟩ := hk; exact hne k c hc)) (fun k hk => by obtain ⟨c, hc⟩ := hk; exact ⟨c, blk_grown hc hg (hne k c hc)⟩)
theorem ic_of_R {W : World} {base : Nat} {ok : Nat → Prop} {A : Option Addr} {m c : Nat} {xs : List Int} (h : (Kd.int .i64).R 3 W base ok (.slice A m c) xs) : m = xs.length ∧ xs.length ≤ c ∧ Ic W A xs := by
 obtain ⟨hn, hc, _⟩ := Kd.R_reads' h
 subst hn
 refine ⟨rfl, hc, Kd.F_mono (Kd.R_F (Kd.R_bound h)) (fun k hk => ?_)⟩
 obtain ⟨_, _, _, q, hq, cells, hcell⟩ := hk
 have hq3 : q = 3 := by simpa [Kd.int, Kd.scalar] using hq
 subst hq3
 exact ⟨cells, hcell⟩
/-- Element j of a row's cells is the condition x. -/
def Ei (W : World) (inner : List Value) (j : Nat) (x : S26) : Prop := ∃ A c, inner[j * 4]? = some (.int .i64 x.f0) ∧ inner[j * 4 + 1]? = some (.int .i64 x.f1) ∧ inner[j * 4 + 2]? = some (.slice A x.f2.f0.length c) ∧ inner[j * 4 + 3]? = some (.int .i64 x.f2.f1) ∧ x.f2.f0.length ≤ c ∧ Ic W A x.f2.f0
/-- A row of conditions that is being made. -/
def LR (B : Nat) (W : World) (v : Value) (xs : List S26) : Prop := xs.length ≤ 9223372036854775807 ∧ ∃ inner, W.ownsRow B 26 4 v xs.length inner ∧ ∀ j x, xs[j]? = some x → Ei W inner j x
theorem LR.step {B : Nat} {W W' : World} {v : Value} {xs : List S26} (h : LR B W v xs) (hb : Below W.heap.size W W') : LR B W' v xs := by
 obtain ⟨hm, inner, ho, hr⟩ := h
 refine ⟨hm, inner, pw_own_below ho hb, fun j x hj => ?_⟩
 obtain ⟨A, c, h0, h1, h2, h3, hl, hi⟩ := hr j x hj
 exact ⟨A, c, h0, h1, h2, h3, hl, hi.step hb⟩
theorem LR.nil (B : Nat) (W : World) : LR B W (.slice none 0 0) [] := ⟨by simp, [], own_nil _ _ _ _, fun j x hj => by simp at hj⟩
theorem ne_row {B : Nat} {W : World} {v : Value} {n : Nat} {inner : List Value} (ho : W.ownsRow B 26 4 v n inner) : ∀ g cur, W.heap[g]? = some (.cells cur 3 (0, 0)) → some g ≠ v.ownBlock := by
 intro g cur hg he
 obtain ⟨cells, hc⟩ := own_typed ho g he.symm
 exact blk_ne hc hg (by decide) rfl
theorem LR.app {B : Nat} {W W' : World} {v v' : Value} {xs : List S26} {inner : List Value} (ho : W.ownsRow B 26 4 v xs.length inner) (hr : ∀ j x, xs[j]? = some x → Ei W inner j x)
  {x : S26} {A : Option Addr} {c : Nat} (hl : x.f2.f0.length ≤ c) (hi : Ic W A x.f2.f0) (hm : xs.length + 1 ≤ 9223372036854775807)
  (ho' : W'.ownsRow B 26 4 v' (xs.length + 1) (inner ++ [.int .i64 x.f0, .int .i64 x.f1, .slice A x.f2.f0.length c, .int .i64 x.f2.f1])) (hg : W.grownBy W' v.ownBlock) : LR B W' v' (xs ++ [x]) := by
 have hne := ne_row ho
 have hli : inner.length = xs.length * 4 := ho.1
 refine ⟨by simp; omega, _, by rw [List.length_append]; exact ho', fun j y hj => ?_⟩
 by_cases hjn : j < xs.length
 ·rw [List.getElem?_append_left hjn] at hj
  obtain ⟨A', c', h0, h1, h2, h3, hl', hi'⟩ := hr j y hj
  exact ⟨A', c', by rw [List.getElem?_append_left (by omega)]; exact h0, by rw [List.getElem?_append_left (by omega)]; exact h1, by rw [List.getElem?_append_left (by omega)]; exact h2, by rw [List.getElem?_append_left (by omega)]; exact h3, hl', hi'.grow hg hne⟩
 ·have hjl := (List.getElem?_eq_some_iff.1 hj).1
  rw [List.length_append, List.length_singleton] at hjl
  obtain rfl : j = xs.length := by omega
  rw [List.getElem?_append_right (Nat.le_refl _), Nat.sub_self] at hj
  simp at hj
  subst hj
  have q0 : xs.length * 4 - inner.length = 0 := by omega
  have q1 : xs.length * 4 + 1 - inner.length = 1 := by omega
  have q2 : xs.length * 4 + 2 - inner.length = 2 := by omega
  have q3 : xs.length * 4 + 3 - inner.length = 3 := by omega
  refine ⟨A, c, ?_, ?_, ?_, ?_, hl, hi.grow hg hne⟩
  ·rw [List.getElem?_append_right (by omega), q0]; rfl
  ·rw [List.getElem?_append_right (by omega), q1]; rfl
  ·rw [List.getElem?_append_right (by omega), q2]; rfl
  ·rw [List.getElem?_append_right (by omega), q3]; rfl
theorem LR.rd {B : Nat} {W : World} {v : Value} {xs : List S26} (h : LR B W v xs) : Rd W v xs := by
 obtain ⟨hm, inner, ho, hr⟩ := h
 have hV : Kd.V k26 26 W 0 (fun _ => True) v xs := Man.V_of_own ho rfl (fun _ _ => trivial) (fun j x hj => by
  obtain ⟨A, c, h0, h1, h2, h3, hl, hi⟩ := hr j x hj
  exact ⟨A, c, h0, h1, h2, h3, hl, Kd.F_mono hi (fun _ _ => trivial)⟩)
 obtain ⟨A, c, rfl⟩ := Kd.V_slice hV
 refine ⟨hm, A, c, rfl, (Kd.V_reads' hV).2.2, fun hp => ?_⟩
 rcases ho.2 with ⟨_, h0⟩ | ⟨g, cap, cur, hv, _⟩
 ·omega
 ·injection hv with ha _ _
  exact ⟨g, ha⟩
/-- A row of conditions in one block as it was laid. -/
theorem rd_lit {W : World} {g cap : Nat} {inner : List Value} {xs : List S26} (hg : W.heap[g]? = some (.cells inner.toArray 26 (0, 0))) (hcap : xs.length ≤ cap) (hm : xs.length ≤ 9223372036854775807) (hl : inner.length = xs.length * 4) (hr : ∀ j x, xs[j]? = some x → Ei W inner j x) :
  Rd W (.slice (some ⟨g, 0, none⟩) xs.length cap) xs := by
 have hV : Kd.V k26 26 W 0 (fun _ => True) (.slice (some ⟨g, 0, none⟩) xs.length cap) xs := Man.V_of_cells (inner := inner) hg trivial hcap hm (by rw [List.toList_toArray, List.take_of_length_le (by omega)]) (fun j x hj => by
  obtain ⟨A, c, h0, h1, h2, h3, hl, hi⟩ := hr j x hj
  exact ⟨A, c, h0, h1, h2, h3, hl, Kd.F_mono hi (fun _ _ => trivial)⟩)
 exact ⟨hm, _, cap, rfl, (Kd.V_reads' hV).2.2, fun _ => ⟨g, rfl⟩⟩
theorem info3 : (Try.prog.info? 3).map (fun i => (i.zero, i.size, i.bytes)) = some (some (.int .i64 0), 1, 8) := by kernel_rfl
/-- What the walk knows of the memory. -/
structure St (w0 W : World) (g1 gz go : Nat) (kd md : Int) (A0 : Option Addr) (c0 : Nat) (l0 : List Int) (a0 : Int) (Az : Option Addr) (cz : Nat) (zs : List Int) : Prop where
 below : Below w0.heap.size w0 W
 x1 : W.heap[g1]? = some (.cells #[.int .i64 kd, .int .i64 md, .slice A0 l0.length c0, .int .i64 a0] 26 (0, 0))
 r0 : Kd.C (Kd.int .i64) W A0 l0.length l0
 xz : W.heap[gz]? = some (.cells #[.slice Az zs.length cz, .int .i64 0] 24 (0, 0))
 xo : W.heap[go]? = some (.cells #[.slice Az zs.length cz, .int .i64 1] 24 (0, 0))
 iz : Ic W Az zs
 cz : zs.length ≤ cz
theorem St.step {w0 W W' : World} {g1 gz go : Nat} {kd md : Int} {A0 : Option Addr} {c0 : Nat} {l0 : List Int} {a0 : Int} {Az : Option Addr} {cz : Nat} {zs : List Int} (h : St w0 W g1 gz go kd md A0 c0 l0 a0 Az cz zs) (hb : Below W.heap.size W W') : St w0 W' g1 gz go kd md A0 c0 l0 a0 Az cz zs :=
 ⟨below_then h.below h.below.size hb, blk_below h.x1 hb, Kd.C_below h.r0 hb, blk_below h.xz hb, blk_below h.xo hb, h.iz.step hb, h.cz⟩
theorem lin_cells {W : World} {g : Nat} {a b : Value} {t : TypeId} (h : W.heap[g]? = some (.cells #[a, b] t (0, 0))) : W.cell? ⟨g, 0, none⟩ = some a ∧ W.cell? ⟨g, 1, none⟩ = some b := ⟨(blk_cell h 0).trans rfl, (blk_cell h 1).trans rfl⟩
theorem app_step {P : Program} {ops : Array Oper} {o : Oper} {a : Act} {Q : Exit → Act → World → Prop} {Kc : Act → World → Prop} {N : Option Tmp} {W : World} (hw : Region.wanted o (yielded ops a.tmps) = true) (h : Oper.wp P o a W Kc Q) : if Region.wanted o (yielded ops a.tmps) = true then Oper.wp P o a W Kc Q else Kc (a.put N undef) W := by
 rw [if_pos hw]
 exact h
theorem rd_nil (W : World) : Rd W (.slice none 0 0) [] := (LR.nil 0 W).rd
def T14 : Bool × List (List Nat × List Nat) := (true, [([], []), ([0], [0]), ([], []), ([1, 2], [1, 2]), ([3], [3]), ([], []), ([5], [5]), ([], []), ([6, 7, 3], [6, 7]), ([8], [8]), ([4, 9], [4, 9]), ([10, 8, 0, 1, 2, 3, 4, 5, 6, 7, 8, 9, 10], [10])])
def B14 : List Nat := [0, 1, 0, 7, 15, 0, 32, 0, 239, 495, 1023, 2047]
theorem tab14 : rtab .any (opsOf Try.f20 14) = T14 := by kernel_rfl
theorem bits14 : waitsOk T14.2 B14 = true := by kernel_rfl
def T10 : Bool × List (List Nat × List Nat) := (true, [([], []), ([], []), ([1], [1]), ([], []), ([3], [3]), ([], []), ([5], [5]), ([], []), ([4, 6, 7], [4, 6, 7]), ([2, 8], [2, 8]), ([9], [9]), ([0, 10, 8], [0, 10]), ([11, 11, 0, 1, 2, 3, 4, 5, 6, 7, 8, 9, 10, 11], [0, 11])])
def B10 : List Nat := [0, 0, 2, 0, 8, 0, 32, 0, 248, 510, 1022, 2047, 4095]
theorem tab10 : rtab .any (opsOf Try.f20 10) = T10 := by kernel_rfl
theorem bits10 : waitsOk T10.2 B10 = true := by kernel_rfl
abbrev MixF := @Mx.headlandref02_Mix.f
/-- The conditions of which the reference makes its answer. -/
def Ls (k : Nat) (kd md : Int) (l0 : List Int) (a0 : Int) (ls : List S26) : Prop :=
 (kd = 0 ∧ ∃ l1 k1, MixF k (-1) l0 a0 (-1) (List.replicate l0.length 0) 1 = some (l1, k1) ∧ ls = [⟨0, 0, ⟨l1, k1⟩⟩]) ∨
 (kd = 1 ∧ ∃ l1 k1 l2 k2, MixF k 1 l0 a0 (-1) (List.replicate l0.length 0) 1 = some (l1, k1) ∧ MixF k (-1) l0 a0 (-1) (List.replicate l0.length 0) 1 = some (l2, k2) ∧ ls = [⟨0, 0, ⟨l1, k1⟩⟩, ⟨0, 0, ⟨l2, k2⟩⟩]) ∨
 (kd = 2 ∧ md ≤ 1000 ∧ ls.length = (md - 1).toNat ∧ ∀ (r : Nat) (x : S26), ls[r]? = some x → MixF k 1 l0 a0 (wrap64 (-((r : Int) + 1))) (List.replicate l0.length 0) 1 = some (x.f2.f0, x.f2.f1) ∧ x.f0 = 2 ∧ x.f1 = md)
set_option maxHeartbeats 16000000 in
set_option maxRecDepth 100000 in
theorem neg_walk (k : Nat) (kd md : Int) (A0 : Option Addr) (c0 : Nat) (l0 : List Int) (a0 : Int) (w : World)
  (h0 : Kd.C (Kd.int .i64) w A0 l0.length l0) (hc0 : l0.length ≤ c0) (hl0 : l0.length ≤ 1000) (hv : Aa.headlandref03_Valid.f k kd md l0 a0 = some true) (f : Int) (ls xs : List S26) (hls : Ls k kd md l0 a0 ls) (hll : ls.length ≤ 1000)
  (hM : ∀ o ∈ ls, Aa.headlandref03_Made.f k o.f0 o.f1 o.f2.f0 o.f2.f1 = some (Lp.raw o)) (hst : ∀ o ∈ ls, (Lp.raw o).2.2.2.2 = 1 ∨ (Lp.raw o).2.2.2.2 = 0 ∨ (Lp.raw o).2.2.2.2 = -1)
  (hO : ∀ o ∈ ls, (Lp.raw o).2.2.2.2 = 0 → Aa.headlandref03_Valid.f k (Lp.raw o).1 (Lp.raw o).2.1 (Lp.raw o).2.2.1 (Lp.raw o).2.2.2.1 = some (Lp.okB (Lp.raw o))) (hn : Lp.negL l0.length [] ls = (xs, f)) :
  Calls Try.prog 20 #[.agg #[.int .i64 kd, .int .i64 md, .slice A0 l0.length c0, .int .i64 a0]] w fun e w' => ∃ v, e = .returned (.tuple #[v, .int .i64 f]) ∧ Rd w' v xs ∧ Below w.heap.size w w' := by
 have H0 := Aside0.mk h0
 have HC := Aside0.mk hc0
 have HV := Aside0.mk hv
 have HL0 := Aside0.mk hl0
 have HLs := Aside0.mk hls
 have HLl := Aside0.mk hll
 have HM := Aside0.mk (And.intro hM (And.intro hst hO))
 have HN := Aside0.mk hn
 clear h0 hc0 hv hl0 hls hll hM hst hO hn
 go_enter Try.func20, Try.ntmps20
 go_upto_region 1 with fail
 obtain ⟨w1, hw1⟩ : ∃ w1, w1 = w.alloc (.cells #[.int .i64 kd, .int .i64 md, .slice A0 l0.length c0, .int .i64 a0] 26) := ⟨_, rfl⟩
 obtain ⟨g1, hg1⟩ : ∃ g1, g1 = w.heap.size := ⟨_, rfl⟩
 rw [← hw1, ← hg1]
 have hb1 : Below w.heap.size w w1 := by rw [hw1]; exact below_alloc (Below.refl _ _) _
 have k1 : w1.heap[g1]? = some (.cells #[.int .i64 kd, .int .i64 md, .slice A0 l0.length c0, .int .i64 a0] 26 (0, 0)) := by rw [hw1, hg1]; exact blk_new _ _
 have HB := Aside0.mk hb1
 have HK := Aside0.mk k1
 have HR0 := Aside0.mk (Kd.C_below H0.out hb1)
 obtain ⟨x0, x1, x2, x3⟩ := box_cells k1
 clear hw1 hg1 hb1 k1
 go_wp2_with fail
 (with_reducible refine (Aa.headlandref03_Valid.calls k kd md A0 c0 l0 a0 true _ HR0.out HC.out HV.out).mono ?_)
 rintro e' w2 ⟨rfl, hb⟩
 have HB2 := Aside0.mk (below_step HB.out hb)
 have HK2 := Aside0.mk (blk_below HK.out hb)
 have HR2 := Aside0.mk (Kd.C_below HR0.out hb)
 clear hb HB HK HR0 x0 x1 x2 x3
 obtain ⟨x0, x1, x2, x3⟩ := box_cells HK2.out
 obtain ⟨zs, hzs⟩ : ∃ zs : List Int, zs = List.replicate l0.length 0 := ⟨_, rfl⟩
 have HZs := Aside0.mk hzs
 clear hzs
 go_upto_region 4 with ((with_reducible refine gate_dst (N := 20) rfl ?_); refine Kd.R_make (Kd.int .i64) _ 3 rfl (N := 20) rfl 22 _ _ rfl (l0.length : Int) rfl rfl Try.underlying22 (.int .i64 0) 8 info3 rfl (by decide) (by omega) 0 (ok := fun _ => True) (okp := fun _ => True) rfl (fun _ hk => hk) trivial (by omega) (by have := HL0.out; omega) (Below.refl _ _) (Nat.le_refl _) ?_; intro vz wz hz hb hgr hnew; rw [Int.toNat_natCast, ← HZs.out] at hz; obtain ⟨Az, cz, rfl⟩ := Kd.R_slice hz; have HZ := Aside0.mk (ic_of_R hz).2; have HB3 := Aside0.mk hb; clear hz hb hgr hnew x0 x1 x2 x3)
 obtain ⟨w3, hw3⟩ : ∃ w3, w3 = wz.alloc (.cells #[.slice Az zs.length cz, .int .i64 0] 24) := ⟨_, rfl⟩
 obtain ⟨gz, hgz⟩ : ∃ gz, gz = wz.heap.size := ⟨_, rfl⟩
 rw [← hw3, ← hgz]
 have hb3 : Below wz.heap.size wz w3 := by rw [hw3]; exact below_alloc (Below.refl _ _) _
 have kz : w3.heap[gz]? = some (.cells #[.slice Az zs.length cz, .int .i64 0] 24 (0, 0)) := by rw [hw3, hgz]; exact blk_new _ _
 have HKz := Aside0.mk kz
 have HB4 := Aside0.mk hb3
 obtain ⟨x0, x1⟩ := lin_cells kz
 clear hw3 hgz hb3 kz
 go_upto_region 5 with fail
 obtain ⟨w4, hw4⟩ : ∃ w4, w4 = w3.alloc (.cells #[.slice Az zs.length cz, .int .i64 1] 24) := ⟨_, rfl⟩
 obtain ⟨go, hgo⟩ : ∃ go, go = w3.heap.size := ⟨_, rfl⟩
 rw [← hw4, ← hgo]
 have hb4 : Below w3.heap.size w3 w4 := by rw [hw4]; exact below_alloc (Below.refl _ _) _
 have ko : w4.heap[go]? = some (.cells #[.slice Az zs.length cz, .int .i64 1] 24 (0, 0)) := by rw [hw4, hgo]; exact blk_new _ _
 have HSt : Aside0 (St w w4 g1 gz go kd md A0 c0 l0 a0 Az cz zs) := ⟨⟨below_step (below_step (below_step HB2.out HB3.out) HB4.out) hb4, blk_below (blk_below (blk_below HK2.out HB3.out) HB4.out) hb4, Kd.C_below (Kd.C_below (Kd.C_below HR2.out HB3.out) HB4.out) hb4, blk_below HKz.out hb4, ko, (HZ.out.2.step HB4.out).step hb4, HZ.out.1⟩⟩
 clear hw4 hgo hb4 ko HB2 HB3 HB4 HK2 HR2 HKz HZ x0 x1 HV H0
 obtain ⟨x0, x1, x2, x3⟩ := box_cells HSt.out.x1
 obtain ⟨y0, y1⟩ := lin_cells HSt.out.xo
 go_upto_block 0 with fail
 go_cut [6, 7] from 27 to 65 (fun v6 v7 wx => Rd wx v6 ls ∧ Below w4.heap.size w4 wx)
 case first =>
  rcases HLs.out with ⟨hkd, l1, k1, hm, hl⟩ | ⟨hkd, l1, k1, l2, k2, hm, hm2, hl⟩ | ⟨hkd, hmd, hlen, hall⟩
  ·have q0 : (kd == 0) = true := by simp [hkd]
   have HMx := Aside0.mk hm
   have HLi := Aside0.mk hl
   clear hkd hm hl
   go_wp2_with fail
   (with_reducible refine (Mx.headlandref02_Mix.calls k (-1) A0 c0 l0 a0 (-1) Az cz zs 1 l1 k1 _ HSt.out.r0 HC.out HSt.out.iz.now HSt.out.cz (by rw [HZs.out]; exact HMx.out)).mono ?_)
   rintro e' w5 ⟨v, rfl, hR, hb⟩
   obtain ⟨A1, c1, rfl⟩ := Kd.R_slice hR
   have HI := Aside0.mk (ic_of_R hR).2
   have HB5 := Aside0.mk hb
   clear hR hb x0 x1 x2 x3 y0 y1
   go_wp2_with fail
   go_meet
   case rel =>
    refine ⟨?_, below_step HB5.out (below_alloc (Below.refl _ _) _)⟩
    rw [HLi.out]
    refine rd_lit (inner := [.int .i64 0, .int .i64 0, .slice A1 l1.length c1, .int .i64 k1]) (xs := [⟨0, 0, ⟨l1, k1⟩⟩]) (blk_new _ _) (Nat.le_refl _) (by simp) rfl (fun j x hj => ?_)
    have hj0 : j = 0 := by
     have := (List.getElem?_eq_some_iff.1 hj).1
     simpa using this
    subst hj0
    simp at hj
    subst hj
    exact ⟨A1, c1, rfl, rfl, rfl, rfl, HI.out.1, HI.out.2.step (below_alloc (Below.refl _ _) _)⟩
  ·have q0 : (kd == 0) = false := by simp [hkd]
   have q1 : (kd == 1) = true := by simp [hkd]
   have HMx := Aside0.mk hm
   have HMy := Aside0.mk hm2
   have HLi := Aside0.mk hl
   clear hkd hm hm2 hl
   go_upto_region 14 with fail
   refine start_ (n := 12) (S := fun w' => w'.cell? ⟨g1, 2, none⟩ = some (.slice A0 l0.length c0) ∧ w'.cell? ⟨g1, 3, none⟩ = some (.int .i64 a0) ∧ w'.cell? ⟨go, 0, none⟩ = some (.slice Az zs.length cz) ∧ w'.cell? ⟨go, 1, none⟩ = some (.int .i64 1)) (ds := []) #[false, false, false, false, false, false, false, false, false, false, false, false] (by kernel_rfl) rfl rfl ⟨(blk_cell HSt.out.x1 2).trans rfl, (blk_cell HSt.out.x1 3).trans rfl, (blk_cell HSt.out.xo 0).trans rfl, (blk_cell HSt.out.xo 1).trans rfl⟩ (fun hHeld => ?_); refine with_tabW tab14 bits14 (fun HT_ HW_ => ?_)
   obtain ⟨wd, hwd⟩ : ∃ wd, wd = w4.drew := ⟨_, rfl⟩
   rw [← hwd] at hHeld ⊢
   have hbd : Below w4.heap.size w4 wd := by rw [hwd]; exact below_drew (Below.refl _ _)
   have HBd := Aside0.mk hbd
   have HSd := Aside0.mk (HSt.out.step hbd)
   clear hwd hbd x0 x1 x2 x3 y0 y1
   refine pure_ (i := 0) (N := some 55) (v := ?_) (a' := ?_) #[true, false, false, false, false, false, false, false, false, false, false, false] rfl rfl (any_of HT_.out (by kernel_rfl)) (fun _ _ _ h => h) (Or.inl ⟨by rfl, ?_⟩) ?_ ?_
   rotate_left
   ·intro w'
    go_simp
    with_reducible rfl
   rotate_left
   ·simp only [Act.put, List.setIfInBounds_toArray, List.set_cons_zero, List.set_cons_succ, i64_w, i32_w]
    rfl
   refine pure_ (i := 5) (N := some 60) (v := ?_) (a' := ?_) #[true, false, false, false, false, true, false, false, false, false, false, false] rfl rfl (any_of HT_.out (by kernel_rfl)) (fun _ _ _ h => h) (Or.inl ⟨by rfl, ?_⟩) ?_ ?_
   rotate_left
   ·intro w'
    go_simp
    with_reducible rfl
   rotate_left
   ·simp only [Act.put, List.setIfInBounds_toArray, List.set_cons_zero, List.set_cons_succ, i64_w, i32_w]
    rfl
   refine take_ (i := 1) (N := some 56) (v := ?_) (a' := ?_) #[true, true, false, false, false, true, false, false, false, false, false, false] rfl rfl (take_ofW HT_.out HW_.out (by kernel_rfl)) (fun _ _ _ h => h) (Or.inl ⟨by rfl, ?_⟩) hHeld ?_ ?_
   rotate_left
   ·rintro w' ⟨s0, s1, s2, s3⟩
    go_simp
    with_reducible rfl
   rotate_left
   ·simp only [Act.put, List.setIfInBounds_toArray, List.set_cons_zero, List.set_cons_succ, i64_w, i32_w]
    rfl
   refine take_ (i := 2) (N := some 57) (v := ?_) (a' := ?_) #[true, true, true, false, false, true, false, false, false, false, false, false] rfl rfl (take_ofW HT_.out HW_.out (by kernel_rfl)) (fun _ _ _ h => h) (Or.inl ⟨by rfl, ?_⟩) hHeld ?_ ?_
   rotate_left
   ·rintro w' ⟨s0, s1, s2, s3⟩
    go_simp
    with_reducible rfl
   rotate_left
   ·simp only [Act.put, List.setIfInBounds_toArray, List.set_cons_zero, List.set_cons_succ, i64_w, i32_w]
    rfl
   refine take_ (i := 6) (N := some 61) (v := ?_) (a' := ?_) #[true, true, true, false, false, true, true, false, false, false, false, false] rfl rfl (take_ofW HT_.out HW_.out (by kernel_rfl)) (fun _ _ _ h => h) (Or.inl ⟨by rfl, ?_⟩) hHeld ?_ ?_
   rotate_left
   ·rintro w' ⟨s0, s1, s2, s3⟩
    go_simp
    with_reducible rfl
   rotate_left
   ·simp only [Act.put, List.setIfInBounds_toArray, List.set_cons_zero, List.set_cons_succ, i64_w, i32_w]
    rfl
   refine take_ (i := 7) (N := some 62) (v := ?_) (a' := ?_) #[true, true, true, false, false, true, true, true, false, false, false, false] rfl rfl (take_ofW HT_.out HW_.out (by kernel_rfl)) (fun _ _ _ h => h) (Or.inl ⟨by rfl, ?_⟩) hHeld ?_ ?_
   rotate_left
   ·rintro w' ⟨s0, s1, s2, s3⟩
    go_simp
    with_reducible rfl
   rotate_left
   ·simp only [Act.put, List.setIfInBounds_toArray, List.set_cons_zero, List.set_cons_succ, i64_w, i32_w]
    rfl
   refine one_ (i := 3) (N := some 58) #[true, true, true, true, false, true, true, true, false, false, false, false] rfl rfl (one_of HT_.out (by kernel_rfl)) (by decide) (fun K hK => ?_)
   refine goes_ Try.func23 (by kernel_rfl) rfl #[.int .i64 1, .agg #[.slice A0 l0.length c0, .int .i64 a0], .int .i64 (-1), .agg #[.slice Az zs.length cz, .int .i64 1]] (by rfl) rfl rfl (by (try simp only [List.map_toArray, List.map_cons, List.map_nil]); first | done | rfl) ?_
   with_reducible refine (Mx.headlandref02_Mix.calls k 1 A0 c0 l0 a0 (-1) Az cz zs 1 l1 k1 _ HSd.out.r0 HC.out HSd.out.iz.now HSd.out.cz (by rw [HZs.out]; exact HMx.out)).mono ?_
   rintro e w5 ⟨v, rfl, hR, hb⟩
   obtain ⟨A1, c1, rfl⟩ := Kd.R_slice hR
   have HI := Aside0.mk (ic_of_R hR).2
   have HS5 := Aside0.mk (HSd.out.step hb)
   have HB5 := Aside0.mk (below_step HBd.out hb)
   clear hR hb HSd HBd
   refine ⟨_, rfl, ?_⟩
   refine hK.out _ _ ⟨(blk_cell HS5.out.x1 2).trans rfl, (blk_cell HS5.out.x1 3).trans rfl, (blk_cell HS5.out.xo 0).trans rfl, (blk_cell HS5.out.xo 1).trans rfl⟩ (fun hHeld => ?_)
   clear hK K
   refine norm_ (a' := ?_) ?_ ?_
   rotate_left
   ·show Act.put _ (some 58) _ = _
    simp only [Act.put, List.setIfInBounds_toArray, List.set_cons_zero, List.set_cons_succ, i64_w, i32_w]
    rfl
   refine pure_ (i := 4) (N := some 59) (v := ?_) (a' := ?_) #[true, true, true, true, true, true, true, true, false, false, false, false] rfl rfl (any_of HT_.out (by kernel_rfl)) (fun _ _ _ h => h) (Or.inl ⟨by rfl, ?_⟩) ?_ ?_
   rotate_left
   ·intro w'
    go_simp
    with_reducible rfl
   rotate_left
   ·simp only [Act.put, List.setIfInBounds_toArray, List.set_cons_zero, List.set_cons_succ, i64_w, i32_w]
    rfl
   refine one_ (i := 8) (N := some 63) #[true, true, true, true, true, true, true, true, true, false, false, false] rfl rfl (one_of HT_.out (by kernel_rfl)) (by decide) (fun K hK => ?_)
   refine goes_ Try.func23 (by kernel_rfl) rfl #[.int .i64 (-1), .agg #[.slice A0 l0.length c0, .int .i64 a0], .int .i64 (-1), .agg #[.slice Az zs.length cz, .int .i64 1]] (by rfl) rfl rfl (by (try simp only [List.map_toArray, List.map_cons, List.map_nil]); first | done | rfl) ?_
   with_reducible refine (Mx.headlandref02_Mix.calls k (-1) A0 c0 l0 a0 (-1) Az cz zs 1 l2 k2 _ HS5.out.r0 HC.out HS5.out.iz.now HS5.out.cz (by rw [HZs.out]; exact HMy.out)).mono ?_
   rintro e w6 ⟨v, rfl, hR, hb⟩
   obtain ⟨A2, c2, rfl⟩ := Kd.R_slice hR
   have HI2 := Aside0.mk (ic_of_R hR).2
   have HI1 := Aside0.mk (And.intro HI.out.1 (HI.out.2.step hb))
   have HS6 := Aside0.mk (HS5.out.step hb)
   have HB6 := Aside0.mk (below_step HB5.out hb)
   clear hR hb HS5 HB5 HI
   refine ⟨_, rfl, ?_⟩
   refine hK.out _ _ ⟨(blk_cell HS6.out.x1 2).trans rfl, (blk_cell HS6.out.x1 3).trans rfl, (blk_cell HS6.out.xo 0).trans rfl, (blk_cell HS6.out.xo 1).trans rfl⟩ (fun hHeld => ?_)
   clear hK K
   refine norm_ (a' := ?_) ?_ ?_
   rotate_left
   ·show Act.put _ (some 63) _ = _
    simp only [Act.put, List.setIfInBounds_toArray, List.set_cons_zero, List.set_cons_succ, i64_w, i32_w]
    rfl
   refine pure_ (i := 9) (N := some 64) (v := ?_) (a' := ?_) #[true, true, true, true, true, true, true, true, true, true, false, false] rfl rfl (any_of HT_.out (by kernel_rfl)) (fun _ _ _ h => h) (Or.inl ⟨by rfl, ?_⟩) ?_ ?_
   rotate_left
   ·intro w'
    go_simp
    with_reducible rfl
   rotate_left
   ·simp only [Act.put, List.setIfInBounds_toArray, List.set_cons_zero, List.set_cons_succ, i64_w, i32_w]
    rfl
   refine one_ (i := 10) (N := some 65) #[true, true, true, true, true, true, true, true, true, true, true, false] rfl rfl (one_of HT_.out (by kernel_rfl)) (by decide) (fun K hK => ?_)
   refine event_step (w1 := w6.alloc (.cells #[.int .i64 0, .int .i64 0, .slice A1 l1.length c1, .int .i64 k1, .int .i64 0, .int .i64 0, .slice A2 l2.length c2, .int .i64 k2] 26 (0, 0))) (v := .slice (some ⟨w6.heap.size, 0, none⟩) 2 2) (by rfl) (by first | (go_simp; done) | (go_simp; rfl)) ?_
   have hb7 : Below w6.heap.size w6 (w6.alloc (.cells #[.int .i64 0, .int .i64 0, .slice A1 l1.length c1, .int .i64 k1, .int .i64 0, .int .i64 0, .slice A2 l2.length c2, .int .i64 k2] 26 (0, 0))) := below_alloc (Below.refl _ _) _
   have HB7 := Aside0.mk (below_step HB6.out hb7)
   have HS7 := Aside0.mk (HS6.out.step hb7)
   clear hb7
   refine hK.out _ _ ⟨(blk_cell HS7.out.x1 2).trans rfl, (blk_cell HS7.out.x1 3).trans rfl, (blk_cell HS7.out.xo 0).trans rfl, (blk_cell HS7.out.xo 1).trans rfl⟩ (fun hHeld => ?_)
   clear hK K
   refine norm_ (a' := ?_) ?_ ?_
   rotate_left
   ·show Act.put _ (some 65) _ = _
    simp only [Act.put, List.setIfInBounds_toArray, List.set_cons_zero, List.set_cons_succ, i64_w, i32_w]
    rfl
   refine pure_ (i := 11) (N := some 6) (v := ?_) (a' := ?_) #[true, true, true, true, true, true, true, true, true, true, true, true] rfl rfl (any_of HT_.out (by kernel_rfl)) (fun _ _ _ h => h) (Or.inl ⟨by rfl, ?_⟩) ?_ ?_
   rotate_left
   ·intro w'
    go_simp
    with_reducible rfl
   rotate_left
   ·simp only [Act.put, List.setIfInBounds_toArray, List.set_cons_zero, List.set_cons_succ, i64_w, i32_w]
    rfl
   refine done_ (done_of HT_.out (by kernel_rfl)) ?_
   go_wp2_with fail
   go_meet
   case rel =>
    refine ⟨?_, HB7.out⟩
    rw [HLi.out]
    refine rd_lit (inner := [.int .i64 0, .int .i64 0, .slice A1 l1.length c1, .int .i64 k1, .int .i64 0, .int .i64 0, .slice A2 l2.length c2, .int .i64 k2]) (xs := [⟨0, 0, ⟨l1, k1⟩⟩, ⟨0, 0, ⟨l2, k2⟩⟩]) (blk_new _ _) (Nat.le_refl _) (by simp) rfl (fun j x hj => ?_)
    have hj0 : j = 0 ∨ j = 1 := by
     have := (List.getElem?_eq_some_iff.1 hj).1
     simp at this
     omega
    rcases hj0 with rfl | rfl
    ·simp at hj
     subst hj
     exact ⟨A1, c1, rfl, rfl, rfl, rfl, HI1.out.1, HI1.out.2.step (below_alloc (Below.refl _ _) _)⟩
    ·simp at hj
     subst hj
     exact ⟨A2, c2, rfl, rfl, rfl, rfl, HI2.out.1, HI2.out.2.step (below_alloc (Below.refl _ _) _)⟩
  ·have q0 : (kd == 0) = false := by simp [hkd]
   have q1 : (kd == 1) = false := by simp [hkd]
   have HAll := Aside0.mk (And.intro hlen hall)
   have HMd := Aside0.mk hmd
   clear hkd hmd hlen hall
   go_wp2_with fail
   have HBz := Aside0.mk (Below.refl w4.heap.size w4)
   go_loopg [6, 7] 1001 (fun kk v6 v7 wr => ∃ q : Nat, kk + q = 1001 ∧ q ≤ (md - 1).toNat ∧ v7 = .int .i64 ((q : Int) + 1) ∧ Below w4.heap.size w4 wr ∧ LR w4.heap.size wr v6 (ls.take q))
   case atStart => exact ⟨0, rfl, Nat.zero_le _, rfl, HBz.out, LR.nil _ _⟩
   case round =>
    obtain ⟨q, hq, hqm, rfl, hbw, hlr⟩ := hrel
    have hm1000 := HMd.out
    have hqb : (q : Int) ≤ 1000 := by omega
    have HQ := Aside0.mk (And.intro hq hqm)
    have HBw := Aside0.mk hbw
    have HLR := Aside0.mk hlr
    have HSr := Aside0.mk (HSt.out.step hbw)
    clear hq hqm hbw hlr x0 x1 x2 x3 y0 y1
    obtain ⟨x0, x1, x2, x3⟩ := box_cells HSr.out.x1
    obtain ⟨y0, y1⟩ := lin_cells HSr.out.xo
    by_cases hlt : (q : Int) + 1 < md
    ·have hltd : decide ((q : Int) + 1 < md) = true := decide_eq_true hlt
     have HLt := Aside0.mk hlt
     have hqx : q < ls.length := by have := HAll.out.1; omega
     obtain ⟨x, hx⟩ : ∃ x, ls[q]? = some x := ⟨_, List.getElem?_eq_getElem hqx⟩
     obtain ⟨hmx, hx0, hx1⟩ := HAll.out.2 q x hx
     have HMx := Aside0.mk hmx
     have HX := Aside0.mk (And.intro hx (And.intro hx0 hx1))
     clear hx hx0 hx1 hmx hqx hlt
     go_upto_region 10 with fail
     refine start_ (n := 13) (S := fun w' => w'.cell? ⟨g1, 1, none⟩ = some (.int .i64 md) ∧ w'.cell? ⟨g1, 2, none⟩ = some (.slice A0 l0.length c0) ∧ w'.cell? ⟨g1, 3, none⟩ = some (.int .i64 a0) ∧ w'.cell? ⟨go, 0, none⟩ = some (.slice Az zs.length cz) ∧ w'.cell? ⟨go, 1, none⟩ = some (.int .i64 1)) (ds := []) #[false, false, false, false, false, false, false, false, false, false, false, false, false] (by kernel_rfl) rfl rfl ⟨(blk_cell HSr.out.x1 1).trans rfl, (blk_cell HSr.out.x1 2).trans rfl, (blk_cell HSr.out.x1 3).trans rfl, (blk_cell HSr.out.xo 0).trans rfl, (blk_cell HSr.out.xo 1).trans rfl⟩ (fun hHeld => ?_); refine with_tabW tab10 bits10 (fun HT_ HW_ => ?_)
     obtain ⟨wd, hwd⟩ : ∃ wd, wd = wr.drew := ⟨_, rfl⟩
     rw [← hwd] at hHeld ⊢
     have hbd : Below wr.heap.size wr wd := by rw [hwd]; exact below_drew (Below.refl _ _)
     have HBd := Aside0.mk (below_step HBw.out hbd)
     have HSd := Aside0.mk (HSr.out.step hbd)
     have HLd := Aside0.mk (HLR.out.step hbd)
     clear hwd hbd x0 x1 x2 x3 y0 y1 HBw HLR HSr
     refine pure_ (i := 0) (N := some 33) (v := ?_) (a' := ?_) #[true, false, false, false, false, false, false, false, false, false, false, false, false] rfl rfl (any_of HT_.out (by kernel_rfl)) (fun _ _ _ h => h) (Or.inl ⟨by rfl, ?_⟩) ?_ ?_
     rotate_left
     ·intro w'
      go_simp
      with_reducible rfl
     rotate_left
     ·simp only [Act.put, List.setIfInBounds_toArray, List.set_cons_zero, List.set_cons_succ, i64_w, i32_w]
      rfl
     refine pure_ (i := 1) (N := some 34) (v := ?_) (a' := ?_) #[true, true, false, false, false, false, false, false, false, false, false, false, false] rfl rfl (any_of HT_.out (by kernel_rfl)) (fun _ _ _ h => h) (Or.inl ⟨by rfl, ?_⟩) ?_ ?_
     rotate_left
     ·intro w'
      go_simp
      with_reducible rfl
     rotate_left
     ·simp only [Act.put, List.setIfInBounds_toArray, List.set_cons_zero, List.set_cons_succ, i64_w, i32_w]
      rfl
     refine pure_ (i := 3) (N := some 36) (v := ?_) (a' := ?_) #[true, true, false, true, false, false, false, false, false, false, false, false, false] rfl rfl (any_of HT_.out (by kernel_rfl)) (fun _ _ _ h => h) (Or.inl ⟨by rfl, ?_⟩) ?_ ?_
     rotate_left
     ·intro w'
      go_simp
      with_reducible rfl
     rotate_left
     ·simp only [Act.put, List.setIfInBounds_toArray, List.set_cons_zero, List.set_cons_succ, i64_w, i32_w]
      rfl
     refine pure_ (i := 5) (N := some 38) (v := ?_) (a' := ?_) #[true, true, false, true, false, true, false, false, false, false, false, false, false] rfl rfl (any_of HT_.out (by kernel_rfl)) (fun _ _ _ h => h) (Or.inl ⟨by rfl, ?_⟩) ?_ ?_
     rotate_left
     ·intro w'
      go_simp
      with_reducible rfl
     rotate_left
     ·simp only [Act.put, List.setIfInBounds_toArray, List.set_cons_zero, List.set_cons_succ, i64_w, i32_w]
      rfl
     refine pure_ (i := 6) (N := some 39) (v := ?_) (a' := ?_) #[true, true, false, true, false, true, true, false, false, false, false, false, false] rfl rfl (any_of HT_.out (by kernel_rfl)) (fun _ _ _ h => h) (Or.inl ⟨by rfl, ?_⟩) ?_ ?_
     rotate_left
     ·intro w'
      go_simp
      with_reducible rfl
     rotate_left
     ·simp only [Act.put, List.setIfInBounds_toArray, List.set_cons_zero, List.set_cons_succ, i64_w, i32_w]
      rfl
     refine take_ (i := 2) (N := some 35) (v := ?_) (a' := ?_) #[true, true, true, true, false, true, true, false, false, false, false, false, false] rfl rfl (take_ofW HT_.out HW_.out (by kernel_rfl)) (fun _ _ _ h => h) (Or.inl ⟨by rfl, ?_⟩) hHeld ?_ ?_
     rotate_left
     ·rintro w' ⟨s0, s1, s2, s3, s4⟩
      go_simp
      with_reducible rfl
     rotate_left
     ·simp only [Act.put, List.setIfInBounds_toArray, List.set_cons_zero, List.set_cons_succ, i64_w, i32_w]
      rfl
     refine take_ (i := 4) (N := some 37) (v := ?_) (a' := ?_) #[true, true, true, true, true, true, true, false, false, false, false, false, false] rfl rfl (take_ofW HT_.out HW_.out (by kernel_rfl)) (fun _ _ _ h => h) (Or.inl ⟨by rfl, ?_⟩) hHeld ?_ ?_
     rotate_left
     ·rintro w' ⟨s0, s1, s2, s3, s4⟩
      go_simp
      with_reducible rfl
     rotate_left
     ·simp only [Act.put, List.setIfInBounds_toArray, List.set_cons_zero, List.set_cons_succ, i64_w, i32_w]
      rfl
     refine take_ (i := 7) (N := some 40) (v := ?_) (a' := ?_) #[true, true, true, true, true, true, true, true, false, false, false, false, false] rfl rfl (take_ofW HT_.out HW_.out (by kernel_rfl)) (fun _ _ _ h => h) (Or.inl ⟨by rfl, ?_⟩) hHeld ?_ ?_
     rotate_left
     ·rintro w' ⟨s0, s1, s2, s3, s4⟩
      go_simp
      with_reducible rfl
     rotate_left
     ·simp only [Act.put, List.setIfInBounds_toArray, List.set_cons_zero, List.set_cons_succ, i64_w, i32_w]
      rfl
     refine one_ (i := 8) (N := some 41) #[true, true, true, true, true, true, true, true, true, false, false, false, false] rfl rfl (one_of HT_.out (by kernel_rfl)) (by decide) (fun K hK => ?_)
     refine goes_ Try.func23 (by kernel_rfl) rfl #[.int .i64 1, .agg #[.slice A0 l0.length c0, .int .i64 a0], .int .i64 (wrap64 (-((q : Int) + 1))), .agg #[.slice Az zs.length cz, .int .i64 1]] (by rfl) rfl rfl (by (try simp only [List.map_toArray, List.map_cons, List.map_nil]); first | done | rfl) ?_
     with_reducible refine (Mx.headlandref02_Mix.calls k 1 A0 c0 l0 a0 (wrap64 (-((q : Int) + 1))) Az cz zs 1 x.f2.f0 x.f2.f1 _ HSd.out.r0 HC.out HSd.out.iz.now HSd.out.cz (by rw [HZs.out]; exact HMx.out)).mono ?_
     rintro e w5 ⟨v, rfl, hR, hb⟩
     obtain ⟨A1, c1, rfl⟩ := Kd.R_slice hR
     have HI := Aside0.mk (ic_of_R hR).2
     have HS5 := Aside0.mk (HSd.out.step hb)
     have HB5 := Aside0.mk (below_step HBd.out hb)
     have HL5 := Aside0.mk (HLd.out.step hb)
     clear hR hb HSd HBd HLd
     refine ⟨_, rfl, ?_⟩
     refine hK.out _ _ ⟨(blk_cell HS5.out.x1 1).trans rfl, (blk_cell HS5.out.x1 2).trans rfl, (blk_cell HS5.out.x1 3).trans rfl, (blk_cell HS5.out.xo 0).trans rfl, (blk_cell HS5.out.xo 1).trans rfl⟩ (fun hHeld => ?_)
     clear hK K
     refine norm_ (a' := ?_) ?_ ?_
     rotate_left
     ·show Act.put _ (some 41) _ = _
      simp only [Act.put, List.setIfInBounds_toArray, List.set_cons_zero, List.set_cons_succ, i64_w, i32_w]
      rfl
     refine pure_ (i := 9) (N := some 42) (v := ?_) (a' := ?_) #[true, true, true, true, true, true, true, true, true, true, false, false, false] rfl rfl (any_of HT_.out (by kernel_rfl)) (fun _ _ _ h => h) (Or.inl ⟨by rfl, ?_⟩) ?_ ?_
     rotate_left
     ·intro w'
      go_simp
      with_reducible rfl
     rotate_left
     ·simp only [Act.put, List.setIfInBounds_toArray, List.set_cons_zero, List.set_cons_succ, i64_w, i32_w]
      rfl
     refine one_ (i := 10) (N := some 43) #[true, true, true, true, true, true, true, true, true, true, true, false, false] rfl rfl (one_of HT_.out (by kernel_rfl)) (by decide) (fun K hK => ?_)
     obtain ⟨w6, hw6⟩ : ∃ w6, w6 = w5.alloc (.cells #[.int .i64 2, .int .i64 md, .slice A1 x.f2.f0.length c1, .int .i64 x.f2.f1] 26 (0, 0)) := ⟨_, rfl⟩
     refine event_step (w1 := w6) (v := .slice (some ⟨w5.heap.size, 0, none⟩) 1 1) (by rfl) (by rw [hw6]; first | (go_simp; done) | (go_simp; rfl)) ?_
     have hb6 : Below w5.heap.size w5 w6 := by rw [hw6]; exact below_alloc (Below.refl _ _) _
     have hk6 : w6.heap[w5.heap.size]? = some (.cells #[.int .i64 2, .int .i64 md, .slice A1 x.f2.f0.length c1, .int .i64 x.f2.f1] 26 (0, 0)) := by rw [hw6]; exact blk_new _ _
     have HK6 := Aside0.mk hk6
     have HB6 := Aside0.mk (below_step HB5.out hb6)
     have HS6 := Aside0.mk (HS5.out.step hb6)
     have HL6 := Aside0.mk (HL5.out.step hb6)
     have HI6 := Aside0.mk (And.intro HI.out.1 (HI.out.2.step hb6))
     clear hb6 hk6 hw6 HB5 HS5 HL5 HI
     refine hK.out _ _ ⟨(blk_cell HS6.out.x1 1).trans rfl, (blk_cell HS6.out.x1 2).trans rfl, (blk_cell HS6.out.x1 3).trans rfl, (blk_cell HS6.out.xo 0).trans rfl, (blk_cell HS6.out.xo 1).trans rfl⟩ (fun hHeld => ?_)
     clear hK K
     refine norm_ (a' := ?_) ?_ ?_
     rotate_left
     ·show Act.put _ (some 43) _ = _
      simp only [Act.put, List.setIfInBounds_toArray, List.set_cons_zero, List.set_cons_succ, i64_w, i32_w]
      rfl
     refine one_ (i := 11) (N := some 44) #[true, true, true, true, true, true, true, true, true, true, true, true, false] rfl rfl (one_of HT_.out (by kernel_rfl)) (by decide) (fun K hK => ?_)
     obtain ⟨hlm, inner, hown, hrows⟩ := HL6.out
     obtain ⟨i26, hi26, hz26, hs26, hb26⟩ := info_parts Man.info26
     have htl : (ls.take q).length = q := by rw [List.length_take]; have := HAll.out.1; have := HLt.out; omega
     refine app_step (by rfl) ?_
     refine wp_append_own w6 (.tmp 33) (.tmp 43) 36 rfl w4.heap.size 26 i26 (.agg #[.int .i64 0, .int .i64 0, .slice none 0 0, .int .i64 0]) 4 48 Try.underlying36 hi26 hz26 hs26 hb26 rfl (by decide) _ (ls.take q).length inner rfl hown ⟨w5.heap.size, 0, none⟩ 1 1 [.int .i64 2, .int .i64 md, .slice A1 x.f2.f0.length c1, .int .i64 x.f2.f1] rfl rfl ?c1 ?c2 ?c3 ?c4 ?c5 ?_
     case c1 => intro j u hj; rw [add_plain, blk_cell HK6.out]; simpa using hj
     case c2 => intro u hu; simp at hu; rcases hu with rfl | rfl | rfl | rfl <;> rfl
     case c3 => rw [htl]; simp only [maxLen]; omega
     case c4 => rw [htl]; omega
     case c5 => exact HB6.out.size
     intro vl wg ho' hg' _
     have hLn : LR w4.heap.size wg vl (ls.take q ++ [x]) := by
      refine LR.app hown hrows HI6.out.1 HI6.out.2 (by rw [htl]; omega) ?_ hg'
      rw [HX.out.2.1, HX.out.2.2]
      exact ho'
     rw [show ls.take q ++ [x] = ls.take (q + 1) from by rw [List.take_add_one, HX.out.1]; rfl] at hLn
     have hbg : Below w4.heap.size w4 wg := HB6.out.grown hg' HB6.out.size (fun k hk => own_base hown k hk)
     have HLn := Aside0.mk hLn
     have HBg := Aside0.mk hbg
     have HSg := Aside0.mk (HSt.out.step hbg)
     clear ho' hg' hLn hbg hown hrows hlm hi26 hz26 hs26 hb26 htl HL6 HB6 HS6 HI6 HK6
     refine hK.out _ _ ⟨(blk_cell HSg.out.x1 1).trans rfl, (blk_cell HSg.out.x1 2).trans rfl, (blk_cell HSg.out.x1 3).trans rfl, (blk_cell HSg.out.xo 0).trans rfl, (blk_cell HSg.out.xo 1).trans rfl⟩ (fun hHeld => ?_)
     clear hK K
     refine norm_ (a' := ?_) ?_ ?_
     rotate_left
     ·show Act.put _ (some 44) _ = _
      simp only [Act.put, List.setIfInBounds_toArray, List.set_cons_zero, List.set_cons_succ, i64_w, i32_w]
      rfl
     refine pure_ (i := 12) (N := some 6) (v := ?_) (a' := ?_) #[true, true, true, true, true, true, true, true, true, true, true, true, true] rfl rfl (any_of HT_.out (by kernel_rfl)) (fun _ _ _ h => h) (Or.inl ⟨by rfl, ?_⟩) ?_ ?_
     rotate_left
     ·intro w'
      go_simp
      with_reducible rfl
     rotate_left
     ·simp only [Act.put, List.setIfInBounds_toArray, List.set_cons_zero, List.set_cons_succ, i64_w, i32_w]
      rfl
     refine done_ (done_of HT_.out (by kernel_rfl)) ?_
     go_wp2_with fail
     go_roundg (gk - 1)
     case measure => have := HQ.out; have := HLt.out; omega
     case rel => exact ⟨q + 1, by have := HQ.out; have := HLt.out; omega, by have := HQ.out; have := HLt.out; omega, by go_num, HBg.out, HLn.out⟩
    ·have hltd : decide ((q : Int) + 1 < md) = false := decide_eq_false hlt
     have HQe : Aside0 (ls.take q = ls) := ⟨List.take_of_length_le (by have := HAll.out.1; have := HQ.out; omega)⟩
     clear hlt
     go_wp2_with fail
     go_meet
     case rel => exact ⟨HQe.out ▸ HLR.out.rd, HBw.out⟩
 case rest =>
  obtain ⟨hrd, hb⟩ := hcut
  obtain ⟨w5, rfl⟩ : ∃ w_ : World, w_ = wc := ⟨_, rfl⟩
  have HS5 := Aside0.mk (HSt.out.step hb)
  obtain ⟨hxm, A, c, rfl, hC, hg⟩ := hrd
  have HCx := Aside0.mk hC
  have HG := Aside0.mk hg
  clear hC hg hxm hb HSt x0 x1 x2 x3 y0 y1 HLs
  obtain ⟨N, hN⟩ : ∃ N, N = ls.length := ⟨_, rfl⟩
  rw [← hN]
  have HNn := Aside0.mk hN
  have hNb : N ≤ 1000 := by rw [hN]; exact HLl.out
  clear hN
  go_wp2_with fail
  have HBz := Aside0.mk (Below.refl w5.heap.size w5)
  go_loopg [8, 68] N (fun kk v8 iv wr => ∃ j : Nat, j + kk = N ∧ iv = .int .i64 j ∧ Below w5.heap.size w5 wr ∧ ∃ acc, acc.length ≤ j ∧ LR w5.heap.size wr v8 acc ∧ Lp.negL l0.length acc (ls.drop j) = (xs, f))
  case atStart => exact ⟨0, by omega, rfl, HBz.out, [], Nat.le_refl _, LR.nil _ _, HN.out⟩
  case round =>
   obtain ⟨j, hj, rfl, hbw, acc, hacc, hlr, hneg⟩ := hrel
   have HJ := Aside0.mk hj
   have HBw := Aside0.mk hbw
   have HSr := Aside0.mk (HS5.out.step hbw)
   have HLR := Aside0.mk hlr
   have HNg := Aside0.mk hneg
   have HAc := Aside0.mk hacc
   have hjb : (j : Int) ≤ 1000 := by omega
   clear hj hbw hlr hneg hacc
   by_cases hlt : j < N
   ·have hjx : j < ls.length := by rw [← HNn.out]; exact hlt
    obtain ⟨x, hx⟩ : ∃ x, ls[j]? = some x := ⟨_, List.getElem?_eq_getElem hjx⟩
    obtain ⟨g, rfl⟩ := HG.out (by omega)
    obtain ⟨A2, c2, y0, y1, y2, y3, hyl, hyc⟩ := elem (Kd.C_below HCx.out HBw.out) j hx
    have hmem := List.mem_of_getElem? hx
    have HMx := Aside0.mk (HM.out.1 x hmem)
    have HTx := Aside0.mk (HM.out.2.1 x hmem)
    have HOx := Aside0.mk (HM.out.2.2 x hmem)
    have hdrop : ls.drop j = x :: ls.drop (j + 1) := by
     rw [List.drop_eq_getElem_cons hjx]
     congr 1
     rw [List.getElem?_eq_getElem hjx] at hx
     exact Option.some.inj hx
    have HDr := Aside0.mk hdrop
    have HYl := Aside0.mk hyl
    have HYc := Aside0.mk hyc
    have hltd : decide ((j : Int) < (N : Int)) = true := decide_eq_true (by omega)
    have HLt := Aside0.mk hlt
    have hltb : (j : Int) < (N : Int) := by omega
    clear hx hjx hmem hdrop hyl hyc hlt
    go_upto_region 19 with fail
    obtain ⟨w6, hw6⟩ : ∃ w6, w6 = wr.alloc (.cells #[.int .i64 x.f0, .int .i64 x.f1, .slice A2 x.f2.f0.length c2, .int .i64 x.f2.f1] 26) := ⟨_, rfl⟩
    obtain ⟨g6, hg6⟩ : ∃ g6, g6 = wr.heap.size := ⟨_, rfl⟩
    rw [← hw6, ← hg6]
    have hb6 : Below wr.heap.size wr w6 := by rw [hw6]; exact below_alloc (Below.refl _ _) _
    have k6 : w6.heap[g6]? = some (.cells #[.int .i64 x.f0, .int .i64 x.f1, .slice A2 x.f2.f0.length c2, .int .i64 x.f2.f1] 26 (0, 0)) := by rw [hw6, hg6]; exact blk_new _ _
    have HB6 := Aside0.mk (below_step HBw.out hb6)
    have HY6 := Aside0.mk (Kd.C_below HYc.out hb6)
    have HL6 := Aside0.mk (HLR.out.step hb6)
    have HS6 := Aside0.mk (HSr.out.step hb6)
    obtain ⟨z0, z1, z2, z3⟩ := box_cells k6
    clear hw6 hg6 hb6 k6 HYc y0 y1 y2 y3 HBw HLR HSr
    obtain ⟨m0, hm0⟩ : ∃ m, m = Lp.raw x := ⟨_, rfl⟩
    obtain ⟨m1, m2, m3, m4, m5⟩ := m0
    have HMe := Aside0.mk (hm0 ▸ HMx.out : Aa.headlandref03_Made.f k x.f0 x.f1 x.f2.f0 x.f2.f1 = some (m1, m2, m3, m4, m5))
    have hT : m5 = 1 ∨ m5 = 0 ∨ m5 = -1 := by have := HTx.out; rw [← hm0] at this; exact this
    have hO2 : m5 = 0 → Aa.headlandref03_Valid.f k m1 m2 m3 m4 = some (Lp.okB (m1, m2, m3, m4, m5)) := by have := HOx.out; rw [← hm0] at this; exact this
    have hNeg : Lp.negL l0.length acc (x :: ls.drop (j + 1)) = (xs, f) := HDr.out ▸ HNg.out
    have hNeg2 : (if m5 = 0 then (if Lp.okB (m1, m2, m3, m4, m5) = true then Lp.negL l0.length (acc ++ [⟨m1, m2, ⟨m3, m4⟩⟩]) (ls.drop (j + 1)) else ([], 3)) else if m5 > 0 then Lp.negL l0.length (acc ++ [Lp.zero l0.length]) (ls.drop (j + 1)) else Lp.negL l0.length acc (ls.drop (j + 1))) = (xs, f) := by
     rw [← hNeg]
     conv => rhs; unfold Lp.negL
     rw [← hm0]
     rfl
    have HT5 := Aside0.mk hT
    have HO2 := Aside0.mk hO2
    have HNg2 := Aside0.mk hNeg2
    clear hm0 hT hO2 hNeg hNeg2 HMx HTx HOx HNg HDr
    go_wp2_with fail
    (with_reducible refine (Aa.headlandref03_Made.calls k x.f0 x.f1 A2 c2 x.f2.f0 x.f2.f1 m1 m2 m3 m4 m5 _ HY6.out HYl.out HMe.out).mono ?_)
    rintro e' w7 ⟨v, rfl, hR, hb⟩
    obtain ⟨A3, c3, rfl⟩ := Kd.R_slice hR
    have HI := Aside0.mk (ic_of_R hR).2
    have HB7 := Aside0.mk (below_step HB6.out hb)
    have HL7 := Aside0.mk (HL6.out.step hb)
    have HS7 := Aside0.mk (HS6.out.step hb)
    clear hR hb HB6 HL6 HS6 HY6 z0 z1 z2 z3
    go_upto_region 20 with fail
    obtain ⟨w8, hw8⟩ : ∃ w8, w8 = w7.alloc (.cells #[.int .i64 m1, .int .i64 m2, .slice A3 m3.length c3, .int .i64 m4] 26) := ⟨_, rfl⟩
    obtain ⟨g8, hg8⟩ : ∃ g8, g8 = w7.heap.size := ⟨_, rfl⟩
    rw [← hw8, ← hg8]
    have hb8 : Below w7.heap.size w7 w8 := by rw [hw8]; exact below_alloc (Below.refl _ _) _
    have k8 : w8.heap[g8]? = some (.cells #[.int .i64 m1, .int .i64 m2, .slice A3 m3.length c3, .int .i64 m4] 26 (0, 0)) := by rw [hw8, hg8]; exact blk_new _ _
    have HK8 := Aside0.mk k8
    have HB8 := Aside0.mk (below_step HB7.out hb8)
    have HI8 := Aside0.mk (And.intro HI.out.1 (HI.out.2.step hb8))
    have HL8 := Aside0.mk (HL7.out.step hb8)
    have HS8 := Aside0.mk (HS7.out.step hb8)
    clear hw8 hg8 hb8 k8 HB7 HI HL7 HS7
    obtain ⟨t0, t1⟩ := lin_cells HS8.out.xz
    obtain ⟨i26, hi26, hz26, hs26, hb26⟩ := info_parts Man.info26
    have hal : acc.length ≤ 1000 := by have := HAc.out; omega
    have HAl := Aside0.mk hal
    clear hal
    rcases HT5.out with h5 | h5 | h5
    ·have q5 : (m5 == 1) = true := by simp [h5]
     have HF : Aside0 (Lp.negL l0.length (acc ++ [(⟨0, 0, ⟨zs, 0⟩⟩ : S26)]) (ls.drop (j + 1)) = (xs, f)) := ⟨by
      have := HNg2.out
      rw [if_neg (by omega), if_pos (by omega)] at this
      rw [HZs.out]
      exact this⟩
     clear h5
     obtain ⟨wl, hwl⟩ : ∃ wl, wl = w8.alloc (.cells #[.int .i64 0, .int .i64 0, .slice Az zs.length cz, .int .i64 0] 26) := ⟨_, rfl⟩
     have hbl : Below w8.heap.size w8 wl := by rw [hwl]; exact below_alloc (Below.refl _ _) _
     have hkl : wl.heap[w8.heap.size]? = some (.cells #[.int .i64 0, .int .i64 0, .slice Az zs.length cz, .int .i64 0] 26 (0, 0)) := by rw [hwl]; exact blk_new _ _
     obtain ⟨hlm, inner, hown, hrows⟩ := HL8.out.step hbl
     have HWL := Aside0.mk hwl
     have HKL := Aside0.mk hkl
     have HO := Aside0.mk hown
     have HRW := Aside0.mk hrows
     have HBl := Aside0.mk (below_step HB8.out hbl)
     have HIl := Aside0.mk (HS8.out.iz.step hbl)
     clear hwl hbl hkl hlm hown hrows
     go_wp2_with ((with_reducible refine gate_dst (N := 84) rfl ?_); rw [← HWL.out]; refine wpList_append_own wl rfl (.tmp 80) (.tmp 83) 36 rfl w5.heap.size 26 i26 (.agg #[.int .i64 0, .int .i64 0, .slice none 0 0, .int .i64 0]) 4 48 Try.underlying36 hi26 hz26 hs26 hb26 rfl (by decide) _ acc.length inner rfl HO.out ⟨w8.heap.size, 0, none⟩ 1 1 [.int .i64 0, .int .i64 0, .slice Az zs.length cz, .int .i64 0] rfl rfl ?c1 ?c2 ?c3 ?c4 ?c5 ?_; (case c1 => intro j u hj; rw [add_plain, blk_cell HKL.out]; simpa using hj); (case c2 => intro u hu; simp at hu; rcases hu with rfl | rfl | rfl | rfl <;> rfl); (case c3 => have := HAl.out; simp only [maxLen]; omega); (case c4 => have := HAl.out; omega); (case c5 => exact HBl.out.size); intro vl wg ho' hg' _; have HGr := Aside0.mk hg'; have HO' := Aside0.mk ho'; clear ho' hg')
     go_roundg (gk - 1)
     case measure => have := HJ.out; have := HLt.out; omega
     case rel => exact ⟨j + 1, by have := HJ.out; have := HLt.out; omega, by go_num, HBl.out.grown HGr.out HBl.out.size (fun k hk => own_base HO.out k hk), acc ++ [(⟨0, 0, ⟨zs, 0⟩⟩ : S26)], by rw [List.length_append, List.length_singleton]; have := HAc.out; omega, LR.app (x := (⟨0, 0, ⟨zs, 0⟩⟩ : S26)) HO.out HRW.out HS8.out.cz HIl.out (by have := HAl.out; omega) HO'.out HGr.out, HF.out⟩
    ·have q5 : (m5 == 1) = false := by simp [h5]
     have q6 : (m5 == 0) = true := by simp [h5]
     have HV2 := Aside0.mk (HO2.out h5)
     have HNg3 : Aside0 ((if Lp.okB (m1, m2, m3, m4, m5) = true then Lp.negL l0.length (acc ++ [⟨m1, m2, ⟨m3, m4⟩⟩]) (ls.drop (j + 1)) else ([], 3)) = (xs, f)) := ⟨by
      have := HNg2.out
      rw [if_pos h5] at this
      exact this⟩
     clear h5 t0 t1
     obtain ⟨z0, z1, z2, z3⟩ := box_cells HK8.out
     cases hk : Lp.okB (m1, m2, m3, m4, m5) with
     | false =>
      have HV3 := Aside0.mk (hk ▸ HV2.out)
      have HR : Aside0 (xs = [] ∧ f = 3) := ⟨by
       have := HNg3.out
       rw [hk, if_neg Bool.false_ne_true] at this
       injection this with h1 h2
       exact ⟨h1.symm, h2.symm⟩⟩
      clear hk HV2 HNg3
      go_wp2_with fail
      (with_reducible refine (Aa.headlandref03_Valid.calls k m1 m2 A3 c3 m3 m4 false _ HI8.out.2.now HI8.out.1 HV3.out).mono ?_)
      rintro e' w9 ⟨rfl, hb⟩
      have HB9 := Aside0.mk (below_step HS8.out.below hb)
      clear hb z0 z1 z2 z3
      go_wp2_with fail
      go_ret2
      obtain ⟨rfl, rfl⟩ := HR.out
      exact ⟨_, rfl, rd_nil _, HB9.out⟩
     | true =>
      have HV3 := Aside0.mk (hk ▸ HV2.out)
      have HF : Aside0 (Lp.negL l0.length (acc ++ [(⟨m1, m2, ⟨m3, m4⟩⟩ : S26)]) (ls.drop (j + 1)) = (xs, f)) := ⟨by
       have := HNg3.out
       rw [hk, if_pos rfl] at this
       exact this⟩
      clear hk HV2 HNg3
      go_wp2_with fail
      (with_reducible refine (Aa.headlandref03_Valid.calls k m1 m2 A3 c3 m3 m4 true _ HI8.out.2.now HI8.out.1 HV3.out).mono ?_)
      rintro e' w9 ⟨rfl, hb⟩
      have HB9 := Aside0.mk (below_step HB8.out hb)
      have HK9 := Aside0.mk (blk_below HK8.out hb)
      have HI9 := Aside0.mk (And.intro HI8.out.1 (HI8.out.2.step hb))
      have HL9 := Aside0.mk (HL8.out.step hb)
      clear hb z0 z1 z2 z3 HB8 HK8 HI8 HL8
      obtain ⟨z0, z1, z2, z3⟩ := box_cells HK9.out
      obtain ⟨wl, hwl⟩ : ∃ wl, wl = w9.alloc (.cells #[.int .i64 m1, .int .i64 m2, .slice A3 m3.length c3, .int .i64 m4] 26) := ⟨_, rfl⟩
      have hbl : Below w9.heap.size w9 wl := by rw [hwl]; exact below_alloc (Below.refl _ _) _
      have hkl : wl.heap[w9.heap.size]? = some (.cells #[.int .i64 m1, .int .i64 m2, .slice A3 m3.length c3, .int .i64 m4] 26 (0, 0)) := by rw [hwl]; exact blk_new _ _
      obtain ⟨hlm, inner, hown, hrows⟩ := HL9.out.step hbl
      have HWL := Aside0.mk hwl
      have HKL := Aside0.mk hkl
      have HO := Aside0.mk hown
      have HRW := Aside0.mk hrows
      have HBl := Aside0.mk (below_step HB9.out hbl)
      have HIl := Aside0.mk (HI9.out.2.step hbl)
      clear hwl hbl hkl hlm hown hrows
      go_wp2_with ((with_reducible refine gate_dst (N := 99) rfl ?_); rw [← HWL.out]; refine wpList_append_own wl rfl (.tmp 96) (.tmp 98) 36 rfl w5.heap.size 26 i26 (.agg #[.int .i64 0, .int .i64 0, .slice none 0 0, .int .i64 0]) 4 48 Try.underlying36 hi26 hz26 hs26 hb26 rfl (by decide) _ acc.length inner rfl HO.out ⟨w9.heap.size, 0, none⟩ 1 1 [.int .i64 m1, .int .i64 m2, .slice A3 m3.length c3, .int .i64 m4] rfl rfl ?c1 ?c2 ?c3 ?c4 ?c5 ?_; (case c1 => intro j u hj; rw [add_plain, blk_cell HKL.out]; simpa using hj); (case c2 => intro u hu; simp at hu; rcases hu with rfl | rfl | rfl | rfl <;> rfl); (case c3 => have := HAl.out; simp only [maxLen]; omega); (case c4 => have := HAl.out; omega); (case c5 => exact HBl.out.size); intro vl wg ho' hg' _; have HGr := Aside0.mk hg'; have HO' := Aside0.mk ho'; clear ho' hg')
      go_roundg (gk - 1)
      case measure => have := HJ.out; have := HLt.out; omega
      case rel => exact ⟨j + 1, by have := HJ.out; have := HLt.out; omega, by go_num, HBl.out.grown HGr.out HBl.out.size (fun k hk => own_base HO.out k hk), acc ++ [(⟨m1, m2, ⟨m3, m4⟩⟩ : S26)], by rw [List.length_append, List.length_singleton]; have := HAc.out; omega, LR.app (x := (⟨m1, m2, ⟨m3, m4⟩⟩ : S26)) HO.out HRW.out HI9.out.1 HIl.out (by have := HAl.out; omega) HO'.out HGr.out, HF.out⟩
    ·have q5 : (m5 == 1) = false := by simp [h5]
     have q6 : (m5 == 0) = false := by simp [h5]
     have HF : Aside0 (Lp.negL l0.length acc (ls.drop (j + 1)) = (xs, f)) := ⟨by
      have := HNg2.out
      rw [if_neg (by omega), if_neg (by omega)] at this
      exact this⟩
     clear h5 t0 t1
     go_wp2_with fail
     go_roundg (gk - 1)
     case measure => have := HJ.out; have := HLt.out; omega
     case rel => exact ⟨j + 1, by have := HJ.out; have := HLt.out; omega, by go_num, HB8.out, acc, by have := HAc.out; omega, HL8.out, HF.out⟩
   ·have hltd : decide ((j : Int) < (N : Int)) = false := decide_eq_false (by omega)
    have hltb : ¬ ((j : Int) < (N : Int)) := by omega
    have HF : Aside0 ((if (acc.length : Int) > 400 then ([], 3) else (acc, 0)) = (xs, f)) := ⟨by
     have := HNg.out
     rw [List.drop_of_length_le (by have := HNn.out; have := HJ.out; omega)] at this
     rw [← this]
     conv => rhs; unfold Lp.negL⟩
    have hrd := HLR.out.rd
    obtain ⟨_, A', c', rfl, _, _⟩ := hrd
    have hal : (acc.length : Int) ≤ 1000 := by have := HAc.out; omega
    clear hlt HNg
    by_cases h4 : (acc.length : Int) > 400
    ·have q4 : decide (400 < (acc.length : Int)) = true := decide_eq_true h4
     have HR : Aside0 (xs = [] ∧ f = 3) := ⟨by
      have := HF.out
      rw [if_pos h4] at this
      injection this with h1 h2
      exact ⟨h1.symm, h2.symm⟩⟩
     have h4' : 400 < (acc.length : Int) := h4
     clear h4 HF
     go_wp2_with fail
     go_ret2
     obtain ⟨rfl, rfl⟩ := HR.out
     exact ⟨_, rfl, rd_nil _, HSr.out.below⟩
    ·have q4 : decide (400 < (acc.length : Int)) = false := decide_eq_false h4
     have HR : Aside0 (xs = acc ∧ f = 0) := ⟨by
      have := HF.out
      rw [if_neg h4] at this
      injection this with h1 h2
      exact ⟨h1.symm, h2.symm⟩⟩
     have h4' : (acc.length : Int) ≤ 400 := by omega
     clear h4 HF
     go_wp2_with fail
     go_ret2
     obtain ⟨rfl, rfl⟩ := HR.out
     exact ⟨_, rfl, HLR.out.rd, HSr.out.below⟩
set_option maxHeartbeats 16000000 in
set_option maxRecDepth 100000 in
theorem neg_bad (k : Nat) (kd md : Int) (A0 : Option Addr) (c0 : Nat) (l0 : List Int) (a0 : Int) (w : World)
  (h0 : Kd.C (Kd.int .i64) w A0 l0.length l0) (hc0 : l0.length ≤ c0) (hv : Aa.headlandref03_Valid.f k kd md l0 a0 = some false) :
  Calls Try.prog 20 #[.agg #[.int .i64 kd, .int .i64 md, .slice A0 l0.length c0, .int .i64 a0]] w fun e w' => ∃ v, e = .returned (.tuple #[v, .int .i64 1]) ∧ Rd w' v [] ∧ Below w.heap.size w w' := by
 have H0 := Aside0.mk h0
 have HC := Aside0.mk hc0
 have HV := Aside0.mk hv
 clear h0 hc0 hv
 go_enter Try.func20, Try.ntmps20
 go_upto_region 1 with fail
 obtain ⟨w1, hw1⟩ : ∃ w1, w1 = w.alloc (.cells #[.int .i64 kd, .int .i64 md, .slice A0 l0.length c0, .int .i64 a0] 26) := ⟨_, rfl⟩
 obtain ⟨g1, hg1⟩ : ∃ g1, g1 = w.heap.size := ⟨_, rfl⟩
 rw [← hw1, ← hg1]
 have hb1 : Below w.heap.size w w1 := by rw [hw1]; exact below_alloc (Below.refl _ _) _
 have k1 : w1.heap[g1]? = some (.cells #[.int .i64 kd, .int .i64 md, .slice A0 l0.length c0, .int .i64 a0] 26 (0, 0)) := by rw [hw1, hg1]; exact blk_new _ _
 have HB := Aside0.mk hb1
 have HR0 := Aside0.mk (Kd.C_below H0.out hb1)
 obtain ⟨x0, x1, x2, x3⟩ := box_cells k1
 clear hw1 hg1 hb1 k1
 go_wp2_with fail
 (with_reducible refine (Aa.headlandref03_Valid.calls k kd md A0 c0 l0 a0 false _ HR0.out HC.out HV.out).mono ?_)
 rintro e' w2 ⟨rfl, hb⟩
 have HB2 := Aside0.mk (below_step HB.out hb)
 clear hb HB HR0 x0 x1 x2 x3
 go_wp2_with fail
 go_ret2
 exact ⟨_, rfl, rd_nil _, HB2.out⟩
end Go.Proofs.Ytcakhbhjdpplcaa.Rn
