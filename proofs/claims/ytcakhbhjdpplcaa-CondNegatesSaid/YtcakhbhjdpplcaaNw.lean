/- The walk of CondNegates: what its code does if the laws of the functions hold. -/
import Derived.Test.YtcakhbhjdpplcaaGn
import Derived.Test.YtcakhbhjdpplcaaNr2
import Derived.Test.YtcakhbhjdpplcaaAa7
import Derived.Deep.DeepCutAuto
import Derived.Deep.CutRange
import Derived.Deep.LoopGhost
import Derived.Outline
namespace Go.Proofs.Ytcakhbhjdpplcaa.Nw
open Go.RowKit Go.Proofs.Ytcakhbhjdpplcaa Go.Proofs.YtcakhbhjdpplcaaW.PrintWords Go.Proofs.YtcakhbhjdpplcaaW.PrintLast Go.Proofs.YtcakhbhjdpplcaaW.PrintMore Go.Proofs.Ytcakhbhjdpplcaa.Kc
set_option linter.unusedVariables false
set_option linter.unusedSimpArgs false
/-- A row of conditions, told so that it can be read. -/
def Rd (W : World) (v : Value) (xs : List S26) : Prop := xs.length ≤ 9223372036854775807 ∧ (∃ A c, v = .slice A xs.length c ∧ Kd.C k26 W A xs.length xs ∧ (0 < xs.length → ∃ g, A = some ⟨g, 0, none⟩))
theorem Rd.step {W W' : World} {v : Value} {xs : List S26} (h : Rd W v xs) (hb : Below W.heap.size W W') : Rd W' v xs := by
  obtain ⟨hm, A, c, e, hc, hg⟩ := h
  exact ⟨hm, A, c, e, Kd.C_below hc hb, hg⟩
theorem rd_of_S {W : World} {base : Nat} {ok : Nat → Prop} {v : Value} {xs : List S26} (h : Kd.S k26 26 W base ok v xs) : Rd W v xs := by
  have hR := Kd.S_R h
  obtain ⟨A, c, rfl⟩ := Kd.R_slice hR
  obtain ⟨_, _, hc⟩ := Kd.R_reads' hR
  refine ⟨hc.2.1, A, c, rfl, hc, fun hp => ?_⟩
  obtain ⟨inner, ho⟩ := Kd.R_own hR
  rcases ho.2 with ⟨_, h0⟩ | ⟨g, cap, cur, hv, _⟩
  · omega
  · injection hv with ha _ _
    exact ⟨g, ha⟩
theorem elem {W : World} {g n : Nat} {xs : List S26} (h : Kd.C k26 W (some ⟨g, 0, none⟩) n xs) (j : Nat) {x : S26} (hx : xs[j]? = some x) :
    ∃ A c, W.cell? ⟨g, j * 4, none⟩ = some (.int .i64 x.f0) ∧ W.cell? ⟨g, j * 4 + 1, none⟩ = some (.int .i64 x.f1) ∧ W.cell? ⟨g, j * 4 + 2, none⟩ = some (.slice A x.f2.f0.length c) ∧ W.cell? ⟨g, j * 4 + 3, none⟩ = some (.int .i64 x.f2.f1) ∧ x.f2.f0.length ≤ c ∧ (Kd.int .i64).C W A x.f2.f0.length x.f2.f0 := by
  have hjl : j < xs.length := (List.getElem?_eq_some_iff.1 hx).1
  obtain ⟨ad, A2, c2, e, h0, h1, h2, h3, hl, hc⟩ := at_T26 h (j : Int) (by omega) (by have := h.1; omega)
  injection e with e
  subst e
  have hr : rd_T26 xs (j : Int) = x := by
    unfold rd_T26
    rw [Int.toNat_natCast, List.getD_eq_getElem?_getD, hx]
    rfl
  rw [hr] at h0 h1 h2 h3 hl hc
  rw [Int.toNat_natCast, add_plain] at h0 h1 h2 h3
  exact ⟨A2, c2, h0, h1, h2, h3, hl, hc⟩
theorem box_cells {W : World} {g : Nat} {a b c d : Value} {t : TypeId} (h : W.heap[g]? = some (.cells #[a, b, c, d] t (0, 0))) : W.cell? ⟨g, 0, none⟩ = some a ∧ W.cell? ⟨g, 1, none⟩ = some b ∧ W.cell? ⟨g, 2, none⟩ = some c ∧ W.cell? ⟨g, 3, none⟩ = some d :=
  ⟨(blk_cell h 0).trans rfl, (blk_cell h 1).trans rfl, (blk_cell h 2).trans rfl, (blk_cell h 3).trans rfl⟩
def T8 : Bool × List (List Nat × List Nat) := (true, [([], []), ([], []), ([0, 1], [0, 1]), ([2], [2]), ([], []), ([], []), ([4, 5], [4, 5]), ([6], [6]), ([3, 7], [3, 7]), ([8], [8])])
def B8 : List Nat := [0, 0, 3, 7, 0, 0, 48, 112, 255, 511]
theorem tab8 : rtab .any (opsOf Try.f6 8) = T8 := by kernel_rfl
theorem bits8 : waitsOk T8.2 B8 = true := by kernel_rfl
set_option maxHeartbeats 16000000 in
set_option maxRecDepth 100000 in
theorem negates_walk (k : Nat) (kd md : Int) (A0 : Option Addr) (c0 : Nat) (l0 : List Int) (a0 : Int) (w : World)
    (h0 : Kd.C (Kd.int .i64) w A0 l0.length l0) (hc0 : l0.length ≤ c0) (f : Int) (xs : List S26) (hN : Gn.cond_Negate.f k kd md l0 a0 = some (xs, f)) (haw : Nr.headlandlaw03_awake.f k = some true)
    (hRef : ∀ W, Kd.C (Kd.int .i64) W A0 l0.length l0 → Calls Try.prog 20 #[.agg #[.int .i64 kd, .int .i64 md, .slice A0 l0.length c0, .int .i64 a0]] W fun e w' => ∃ v, e = .returned (.tuple #[v, .int .i64 f]) ∧ Rd w' v xs ∧ Below W.heap.size W w')
    (hS : ∀ x ∈ xs, Aa.headlandref03_Same.f k x.f0 x.f1 x.f2.f0 x.f2.f1 x.f0 x.f1 x.f2.f0 x.f2.f1 = some true) (hxs : xs.length ≤ 1000) :
    Calls Try.prog 6 #[.agg #[.int .i64 kd, .int .i64 md, .slice A0 l0.length c0, .int .i64 a0]] w fun e w' => e = .returned (.bool true) ∧ Below w.heap.size w w' := by
  have H0 := Aside0.mk h0
  have HC := Aside0.mk hc0
  have HN := Aside0.mk hN
  have HW := Aside0.mk haw
  have HRef := Aside0.mk hRef
  have HS := Aside0.mk hS
  have HX := Aside0.mk hxs
  clear h0 hc0 hN haw hRef hS hxs
  go_enter Try.func6, Try.ntmps6
  go_upto_region 1 with fail
  obtain ⟨w1, hw1⟩ : ∃ w1, w1 = w.alloc (.cells #[.int .i64 kd, .int .i64 md, .slice A0 l0.length c0, .int .i64 a0] 26) := ⟨_, rfl⟩
  obtain ⟨g1, hg1⟩ : ∃ g1, g1 = w.heap.size := ⟨_, rfl⟩
  rw [← hw1, ← hg1]
  have hb1 : Below w.heap.size w w1 := by rw [hw1]; exact below_alloc (Below.refl _ _) _
  have k1 : w1.heap[g1]? = some (.cells #[.int .i64 kd, .int .i64 md, .slice A0 l0.length c0, .int .i64 a0] 26 (0, 0)) := by rw [hw1, hg1]; exact blk_new _ _
  have HB := Aside0.mk hb1
  have HK := Aside0.mk k1
  have HR0 := Aside0.mk (Kd.C_below H0.out hb1)
  obtain ⟨x0, x1, x2, x3⟩ := box_cells k1
  clear hw1 hg1 hb1 k1
  go_wp2_with fail
  (with_reducible refine (Gn.cond_Negate.calls k kd md A0 c0 l0 a0 xs f _ HR0.out HC.out HN.out).mono ?_)
  rintro e' w2 ⟨v, rfl, hS, hb⟩
  have HRd := Aside0.mk (rd_of_S hS)
  have HB2 := Aside0.mk (below_step HB.out hb)
  have HK2 := Aside0.mk (blk_below HK.out hb)
  have HR02 := Aside0.mk (Kd.C_below HR0.out hb)
  clear hS hb HB HK HR0 x0 x1 x2 x3
  obtain ⟨x0, x1, x2, x3⟩ := box_cells HK2.out
  go_wp2_with fail
  (with_reducible refine (HRef.out _ HR02.out).mono ?_)
  rintro e' w3 ⟨v', rfl, hR, hb⟩
  have HRd1 := Aside0.mk (HRd.out.step hb)
  have HRd2 := Aside0.mk hR
  have HB3 := Aside0.mk (below_step HB2.out hb)
  clear hR hb HB2 HK2 HR02 HRd x0 x1 x2 x3
  obtain ⟨hxm, A, c, rfl, hC, hg⟩ := HRd1.out
  obtain ⟨hxm', A', c', rfl, hC', hg'⟩ := HRd2.out
  have HCx := Aside0.mk hC
  have HCy := Aside0.mk hC'
  have HG := Aside0.mk hg
  have HG' := Aside0.mk hg'
  clear hC hC' hg hg' HRd1 HRd2 hxm hxm'
  obtain ⟨N, hN⟩ : ∃ N, N = xs.length := ⟨_, rfl⟩
  rw [← hN]
  have HNn := Aside0.mk hN
  have hNb : N ≤ 1000 := by rw [hN]; exact HX.out
  clear hN
  have hff : (f != f) = false := by simp
  have hll : ((N : Int) != (N : Int)) = false := by simp
  go_wp2_with fail
  have HBz := Aside0.mk (Below.refl w3.heap.size w3)
  go_loopg [30] N (fun kk iv wr => ∃ i : Int, 0 ≤ i ∧ i + (kk : Int) = (N : Int) ∧ iv = .int .i64 i ∧ Below w3.heap.size w3 wr)
  case atStart => exact ⟨0, by omega, by omega, rfl, HBz.out⟩
  case round =>
    obtain ⟨i, hi0, hik, rfl, hbw⟩ := hrel
    have HI := Aside0.mk (And.intro hi0 hik)
    have HBw := Aside0.mk hbw
    have hib : i ≤ 1000 := by omega
    clear hbw
    by_cases hlt : i < (N : Int)
    · have HLt := Aside0.mk hlt
      have hil : i < (xs.length : Int) := by rw [← HNn.out]; exact hlt
      have hmem : rd_T26 xs i ∈ xs := by
        have h : i.toNat < xs.length := by omega
        unfold rd_T26
        rw [List.getD_eq_getElem?_getD, List.getElem?_eq_getElem h]
        exact List.getElem_mem h
      have HSx := Aside0.mk (HS.out _ hmem)
      obtain ⟨ad, A2, c2, e, y0, y1, y2, y3, hyl, hyc⟩ := at_T26 (Kd.C_below HCx.out HBw.out) i hi0 hil
      cases e
      obtain ⟨ad', A3, c3, e, z0, z1, z2, z3, hzl, hzc⟩ := at_T26 (Kd.C_below HCy.out HBw.out) i hi0 hil
      cases e
      have HYl := Aside0.mk hyl
      have HYc := Aside0.mk hyc
      have HZl := Aside0.mk hzl
      have HZc := Aside0.mk hzc
      have hltd : decide (i < (N : Int)) = true := decide_eq_true hlt
      clear hik hil hmem hyl hyc hzl hzc
      go_upto_region 8 with fail
      replace hi0 := eq_true hi0
      replace hlt := eq_true hlt
      refine start_ (n := 10) (S := fun w' => w'.cell? (ad.add (i.toNat * 4)) = some (.int .i64 (rd_T26 xs i).f0) ∧ w'.cell? (⟨(ad.add (i.toNat * 4)).block, (ad.add (i.toNat * 4)).off + 1, none⟩) = some (.int .i64 (rd_T26 xs i).f1) ∧ w'.cell? (⟨(ad.add (i.toNat * 4)).block, (ad.add (i.toNat * 4)).off + 2, none⟩) = some (.slice A2 (rd_T26 xs i).f2.f0.length c2) ∧ w'.cell? (⟨(ad.add (i.toNat * 4)).block, (ad.add (i.toNat * 4)).off + 3, none⟩) = some (.int .i64 (rd_T26 xs i).f2.f1) ∧ w'.cell? (ad'.add (i.toNat * 4)) = some (.int .i64 (rd_T26 xs i).f0) ∧ w'.cell? (⟨(ad'.add (i.toNat * 4)).block, (ad'.add (i.toNat * 4)).off + 1, none⟩) = some (.int .i64 (rd_T26 xs i).f1) ∧ w'.cell? (⟨(ad'.add (i.toNat * 4)).block, (ad'.add (i.toNat * 4)).off + 2, none⟩) = some (.slice A3 (rd_T26 xs i).f2.f0.length c3) ∧ w'.cell? (⟨(ad'.add (i.toNat * 4)).block, (ad'.add (i.toNat * 4)).off + 3, none⟩) = some (.int .i64 (rd_T26 xs i).f2.f1)) (ds := []) #[false, false, false, false, false, false, false, false, false, false] (by kernel_rfl) rfl rfl ⟨y0, y1, y2, y3, z0, z1, z2, z3⟩ (fun hHeld => ?_); refine with_tabW tab8 bits8 (fun HT_ HW_ => ?_)
      have HYd := Aside0.mk (Kd.C_drew HYc.out)
      have HZd := Aside0.mk (Kd.C_drew HZc.out)
      have HBd := Aside0.mk (below_drew1 HBw.out)
      clear HYc HZc HBw
      generalize wr.drew = wd at *
      refine pure_ (i := 0) (N := some 33) (v := ?_) (a' := ?_) #[true, false, false, false, false, false, false, false, false, false] rfl rfl (any_of HT_.out (by kernel_rfl)) (fun _ _ _ h => h) (Or.inl ⟨by rfl, ?_⟩) ?_ ?_
      rotate_left
      · intro w'
        go_simp
        with_reducible rfl
      rotate_left
      · simp only [Act.put, List.setIfInBounds_toArray, List.set_cons_zero, List.set_cons_succ, i64_w, i32_w]
        rfl
      refine pure_ (i := 1) (N := some 34) (v := ?_) (a' := ?_) #[true, true, false, false, false, false, false, false, false, false] rfl rfl (any_of HT_.out (by kernel_rfl)) (fun _ _ _ h => h) (Or.inl ⟨by rfl, ?_⟩) ?_ ?_
      rotate_left
      · intro w'
        go_simp
        with_reducible rfl
      rotate_left
      · simp only [Act.put, List.setIfInBounds_toArray, List.set_cons_zero, List.set_cons_succ, i64_w, i32_w]
        rfl
      refine pure_ (i := 2) (N := some 35) (v := ?_) (a' := ?_) #[true, true, true, false, false, false, false, false, false, false] rfl rfl (any_of HT_.out (by kernel_rfl)) (fun _ _ _ h => h) (Or.inl ⟨by rfl, ?_⟩) ?_ ?_
      rotate_left
      · intro w'
        go_simp
        with_reducible rfl
      rotate_left
      · simp only [Act.put, List.setIfInBounds_toArray, List.set_cons_zero, List.set_cons_succ, i64_w, i32_w]
        rfl
      refine pure_ (i := 4) (N := some 37) (v := ?_) (a' := ?_) #[true, true, true, false, true, false, false, false, false, false] rfl rfl (any_of HT_.out (by kernel_rfl)) (fun _ _ _ h => h) (Or.inl ⟨by rfl, ?_⟩) ?_ ?_
      rotate_left
      · intro w'
        go_simp
        with_reducible rfl
      rotate_left
      · simp only [Act.put, List.setIfInBounds_toArray, List.set_cons_zero, List.set_cons_succ, i64_w, i32_w]
        rfl
      refine pure_ (i := 5) (N := some 38) (v := ?_) (a' := ?_) #[true, true, true, false, true, true, false, false, false, false] rfl rfl (any_of HT_.out (by kernel_rfl)) (fun _ _ _ h => h) (Or.inl ⟨by rfl, ?_⟩) ?_ ?_
      rotate_left
      · intro w'
        go_simp
        with_reducible rfl
      rotate_left
      · simp only [Act.put, List.setIfInBounds_toArray, List.set_cons_zero, List.set_cons_succ, i64_w, i32_w]
        rfl
      refine pure_ (i := 6) (N := some 39) (v := ?_) (a' := ?_) #[true, true, true, false, true, true, true, false, false, false] rfl rfl (any_of HT_.out (by kernel_rfl)) (fun _ _ _ h => h) (Or.inl ⟨by rfl, ?_⟩) ?_ ?_
      rotate_left
      · intro w'
        go_simp
        with_reducible rfl
      rotate_left
      · simp only [Act.put, List.setIfInBounds_toArray, List.set_cons_zero, List.set_cons_succ, i64_w, i32_w]
        rfl
      refine take_ (i := 3) (N := some 36) (v := ?_) (a' := ?_) #[true, true, true, true, true, true, true, false, false, false] rfl rfl (take_ofW HT_.out HW_.out (by kernel_rfl)) (fun _ _ _ h => h) (Or.inl ⟨by rfl, ?_⟩) hHeld ?_ ?_
      rotate_left
      · rintro w' ⟨s0, s1, s2, s3, s4, s5, s6, s7⟩
        go_simp
        with_reducible rfl
      rotate_left
      · simp only [Act.put, List.setIfInBounds_toArray, List.set_cons_zero, List.set_cons_succ, i64_w, i32_w]
        rfl
      refine take_ (i := 7) (N := some 40) (v := ?_) (a' := ?_) #[true, true, true, true, true, true, true, true, false, false] rfl rfl (take_ofW HT_.out HW_.out (by kernel_rfl)) (fun _ _ _ h => h) (Or.inl ⟨by rfl, ?_⟩) hHeld ?_ ?_
      rotate_left
      · rintro w' ⟨s0, s1, s2, s3, s4, s5, s6, s7⟩
        go_simp
        with_reducible rfl
      rotate_left
      · simp only [Act.put, List.setIfInBounds_toArray, List.set_cons_zero, List.set_cons_succ, i64_w, i32_w]
        rfl
      refine one_ (i := 8) (N := some 41) #[true, true, true, true, true, true, true, true, true, false] rfl rfl (one_of HT_.out (by kernel_rfl)) (by decide) (fun K hK => ?_)
      refine goes_ Try.func12 (by kernel_rfl) rfl #[.agg #[.int .i64 (rd_T26 xs i).f0, .int .i64 (rd_T26 xs i).f1, .slice A2 (rd_T26 xs i).f2.f0.length c2, .int .i64 (rd_T26 xs i).f2.f1], .agg #[.int .i64 (rd_T26 xs i).f0, .int .i64 (rd_T26 xs i).f1, .slice A3 (rd_T26 xs i).f2.f0.length c3, .int .i64 (rd_T26 xs i).f2.f1]] (by rfl) rfl rfl (by (try simp only [List.map_toArray, List.map_cons, List.map_nil]); first | done | rfl) ?_
      with_reducible refine (Aa.headlandref03_Same.calls k _ _ _ _ _ _ _ _ _ _ _ _ true _ HYd.out HYl.out HZd.out HZl.out HSx.out).mono ?_
      rintro e w5 ⟨rfl, hb⟩
      have HS0_ := (hb.cell (World.block_lt_of_cell? _ _ (hHeld.1))).trans (hHeld.1)
      have HS1_ := (hb.cell (World.block_lt_of_cell? _ _ (hHeld.2.1))).trans (hHeld.2.1)
      have HS2_ := (hb.cell (World.block_lt_of_cell? _ _ (hHeld.2.2.1))).trans (hHeld.2.2.1)
      have HS3_ := (hb.cell (World.block_lt_of_cell? _ _ (hHeld.2.2.2.1))).trans (hHeld.2.2.2.1)
      have HS4_ := (hb.cell (World.block_lt_of_cell? _ _ (hHeld.2.2.2.2.1))).trans (hHeld.2.2.2.2.1)
      have HS5_ := (hb.cell (World.block_lt_of_cell? _ _ (hHeld.2.2.2.2.2.1))).trans (hHeld.2.2.2.2.2.1)
      have HS6_ := (hb.cell (World.block_lt_of_cell? _ _ (hHeld.2.2.2.2.2.2.1))).trans (hHeld.2.2.2.2.2.2.1)
      have HS7_ := (hb.cell (World.block_lt_of_cell? _ _ (hHeld.2.2.2.2.2.2.2))).trans (hHeld.2.2.2.2.2.2.2)
      refine ⟨_, rfl, ?_⟩
      have HB5 := Aside0.mk (below_step HBd.out hb)
      clear hb
      refine hK.out _ _ ⟨HS0_, HS1_, HS2_, HS3_, HS4_, HS5_, HS6_, HS7_⟩ (fun hHeld => ?_)
      clear hK K
      refine norm_ (a' := ?_) ?_ ?_
      rotate_left
      · show Act.put _ (some 41) _ = _
        simp only [Act.put, List.setIfInBounds_toArray, List.set_cons_zero, List.set_cons_succ, i64_w, i32_w]
        rfl
      refine pure_ (i := 9) (N := some 42) (v := ?_) (a' := ?_) #[true, true, true, true, true, true, true, true, true, true] rfl rfl (any_of HT_.out (by kernel_rfl)) (fun _ _ _ h => h) (Or.inl ⟨by rfl, ?_⟩) ?_ ?_
      rotate_left
      · intro w'
        go_simp
        with_reducible rfl
      rotate_left
      · simp only [Act.put, List.setIfInBounds_toArray, List.set_cons_zero, List.set_cons_succ, i64_w, i32_w]
        rfl
      refine done_ (done_of HT_.out (by kernel_rfl)) ?_
      have hwr : wrap64 (i + 1) = i + 1 := by have := HI.out.1; unfold wrap64; omega
      go_wp2_with fail
      go_roundg (gk - 1)
      case measure => have := HI.out.2; have := HLt.out; omega
      case rel => exact ⟨i + 1, by have := HI.out.1; omega, by have := HI.out.2; have := HLt.out; omega, by go_num, HB5.out⟩
    · have hltd : decide (i < (N : Int)) = false := decide_eq_false hlt
      go_wp2_with fail
      (with_reducible refine (Nr.headlandlaw03_awake.calls k true _ HW.out).mono ?_)
      rintro e' w5 ⟨rfl, hb⟩
      have HB5 := Aside0.mk (below_step HB3.out (below_step HBw.out hb))
      clear hb
      go_wp2_with fail
      go_ret
      exact ⟨rfl, HB5.out⟩
end Go.Proofs.Ytcakhbhjdpplcaa.Nw
