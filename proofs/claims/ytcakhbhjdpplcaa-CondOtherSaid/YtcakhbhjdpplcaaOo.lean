/- The walk of CondOther: what its code does if the laws of the functions hold. -/
import Derived.Test.YtcakhbhjdpplcaaGn
import Derived.Test.YtcakhbhjdpplcaaNr2
import Derived.Test.YtcakhbhjdpplcaaHo1
import Derived.Test.YtcakhbhjdpplcaaAa7
import Derived.Deep.DeepCutAuto
import Derived.Deep.CutRange
import Derived.Deep.LoopGhost
import Derived.Outline
namespace Go.Proofs.Ytcakhbhjdpplcaa.Oo
open Go.RowKit Go.Proofs.Ytcakhbhjdpplcaa Go.Proofs.YtcakhbhjdpplcaaW.PrintWords Go.Proofs.YtcakhbhjdpplcaaW.PrintLast Go.Proofs.YtcakhbhjdpplcaaW.PrintMore Go.Proofs.Ytcakhbhjdpplcaa.Kc
set_option linter.unusedVariables false
set_option linter.unusedSimpArgs false
/-- A row of conditions, told so that it can be read. -/
def Rd (W : World) (v : Value) (xs : List S26) : Prop := xs.length ≤ 9223372036854775807 ∧ (∃ A c, v = .slice A xs.length c ∧ Kd.C k26 W A xs.length xs ∧ (0 < xs.length → ∃ g, A = some ⟨g, 0, none⟩))
theorem Rd.step {W W' : World} {v : Value} {xs : List S26} (h : Rd W v xs) (hb : Below W.heap.size W W') : Rd W' v xs := by
  obtain ⟨hm, A, c, e, hc, hg⟩ := h
  exact ⟨hm, A, c, e, Kd.C_below hc hb, hg⟩
theorem rd_of_S {W : World} {base : Nat} {ok : Nat → Prop} {v : Value} {xs : List S26} (h : Kd.S k26 26 W base ok v xs) : Rd W v xs := by
  have hR := Kd.S_R h
  obtain ⟨A, c, rfl⟩ := Kd.R_slice hR
  obtain ⟨_, _, hc⟩ := Kd.R_reads' hR
  refine ⟨hc.2.1, A, c, rfl, hc, fun hp => ?_⟩
  obtain ⟨inner, ho⟩ := Kd.R_own hR
  rcases ho.2 with ⟨_, h0⟩ | ⟨g, cap, cur, hv, _⟩
  · omega
  · injection hv with ha _ _
    exact ⟨g, ha⟩
theorem elem {W : World} {g n : Nat} {xs : List S26} (h : Kd.C k26 W (some ⟨g, 0, none⟩) n xs) (j : Nat) {x : S26} (hx : xs[j]? = some x) :
    ∃ A c, W.cell? ⟨g, j * 4, none⟩ = some (.int .i64 x.f0) ∧ W.cell? ⟨g, j * 4 + 1, none⟩ = some (.int .i64 x.f1) ∧ W.cell? ⟨g, j * 4 + 2, none⟩ = some (.slice A x.f2.f0.length c) ∧ W.cell? ⟨g, j * 4 + 3, none⟩ = some (.int .i64 x.f2.f1) ∧ x.f2.f0.length ≤ c ∧ (Kd.int .i64).C W A x.f2.f0.length x.f2.f0 := by
  have hjl : j < xs.length := (List.getElem?_eq_some_iff.1 hx).1
  obtain ⟨ad, A2, c2, e, h0, h1, h2, h3, hl, hc⟩ := at_T26 h (j : Int) (by omega) (by have := h.1; omega)
  injection e with e
  subst e
  have hr : rd_T26 xs (j : Int) = x := by
    unfold rd_T26
    rw [Int.toNat_natCast, List.getD_eq_getElem?_getD, hx]
    rfl
  rw [hr] at h0 h1 h2 h3 hl hc
  rw [Int.toNat_natCast, add_plain] at h0 h1 h2 h3
  exact ⟨A2, c2, h0, h1, h2, h3, hl, hc⟩
theorem box_cells {W : World} {g : Nat} {a b c d : Value} {t : TypeId} (h : W.heap[g]? = some (.cells #[a, b, c, d] t (0, 0))) : W.cell? ⟨g, 0, none⟩ = some a ∧ W.cell? ⟨g, 1, none⟩ = some b ∧ W.cell? ⟨g, 2, none⟩ = some c ∧ W.cell? ⟨g, 3, none⟩ = some d :=
  ⟨(blk_cell h 0).trans rfl, (blk_cell h 1).trans rfl, (blk_cell h 2).trans rfl, (blk_cell h 3).trans rfl⟩
/-- How many of the first j conditions hold, counted from c on. -/
def cnt (p : S26 → Bool) (xs : List S26) (c : Nat) (j : Nat) : Nat := c + ((xs.take j).filter p).length
theorem cnt_succ (p : S26 → Bool) (xs : List S26) (c j : Nat) (x : S26) (h : xs[j]? = some x) : cnt p xs c (j + 1) = cnt p xs c j + if p x = true then 1 else 0 := by
  unfold cnt
  rw [List.take_add_one, h]
  simp only [Option.toList_some, List.filter_append, List.length_append]
  by_cases hp : p x = true
  · rw [if_pos hp, List.filter_cons_of_pos hp]; simp; omega
  · rw [if_neg hp, List.filter_cons_of_neg hp]; simp
theorem cnt_le (p : S26 → Bool) (xs : List S26) (c j : Nat) : cnt p xs c j ≤ c + j := by
  unfold cnt
  have := List.length_filter_le p (xs.take j)
  have := List.length_take_le j xs
  omega
set_option maxHeartbeats 16000000 in
set_option maxRecDepth 100000 in
theorem other_walk (k : Nat) (kd md : Int) (A0 : Option Addr) (c0 : Nat) (l0 : List Int) (a0 : Int) (A1 : Option Addr) (c1 : Nat) (l1 : List Int) (w : World)
    (h0 : Kd.C (Kd.int .i64) w A0 l0.length l0) (hc0 : l0.length ≤ c0) (h1 : Kd.C (Kd.int .i64) w A1 l1.length l1) (hc1 : l1.length ≤ c1) (hl1 : l1.length ≤ 9223372036854775807)
    (is : Bool) (e f : Int) (xs : List S26) (hH : Ho.cond_Holds.f k kd md l0 a0 l1 = some (is, e)) (hN : Gn.cond_Negate.f k kd md l0 a0 = some (xs, f)) (haw : Nr.headlandlaw03_awake.f k = some true)
    (p : S26 → Bool) (hV : e = 0 → f = 0 → ∀ x ∈ xs, Aa.headlandref03_Valid.f k x.f0 x.f1 x.f2.f0 x.f2.f1 = some true ∧ x.f2.f0.length = l1.length ∧ Ho.headlandref03_Is.f k x.f0 x.f1 x.f2.f0 x.f2.f1 l1 = some (p x))
    (h1s : e = 0 → f = 0 → cnt p xs (if is = true then 1 else 0) xs.length = 1) (hxs : xs.length ≤ 1000) :
    Calls Try.prog 8 #[.agg #[.int .i64 kd, .int .i64 md, .slice A0 l0.length c0, .int .i64 a0], .slice A1 l1.length c1] w fun e w' => e = .returned (.bool true) ∧ Below w.heap.size w w' := by
  have H0 := Aside0.mk (And.intro h0 h1)
  have HC := Aside0.mk (And.intro hc0 hc1)
  have HH := Aside0.mk hH
  have HN := Aside0.mk hN
  have HW := Aside0.mk haw
  have HV := Aside0.mk hV
  have H1 := Aside0.mk h1s
  have HX := Aside0.mk hxs
  have HL1 := Aside0.mk hl1
  clear h0 h1 hc0 hc1 hH hN haw hV h1s hxs hl1
  go_enter Try.func8, Try.ntmps8
  go_upto_region 1 with fail
  obtain ⟨w1, hw1⟩ : ∃ w1, w1 = w.alloc (.cells #[.int .i64 kd, .int .i64 md, .slice A0 l0.length c0, .int .i64 a0] 26) := ⟨_, rfl⟩
  obtain ⟨g1, hg1⟩ : ∃ g1, g1 = w.heap.size := ⟨_, rfl⟩
  rw [← hw1, ← hg1]
  have hb1 : Below w.heap.size w w1 := by rw [hw1]; exact below_alloc (Below.refl _ _) _
  have k1 : w1.heap[g1]? = some (.cells #[.int .i64 kd, .int .i64 md, .slice A0 l0.length c0, .int .i64 a0] 26 (0, 0)) := by rw [hw1, hg1]; exact blk_new _ _
  have HB := Aside0.mk hb1
  have HK := Aside0.mk k1
  have HR0 := Aside0.mk (Kd.C_below H0.out.1 hb1)
  have HR1 := Aside0.mk (Kd.C_below H0.out.2 hb1)
  obtain ⟨x0, x1, x2, x3⟩ := box_cells k1
  clear hw1 hg1 hb1 k1
  go_wp2_with fail
  (with_reducible refine (Ho.cond_Holds.calls k kd md A0 c0 l0 a0 A1 c1 l1 is e _ HR0.out HC.out.1 HR1.out HC.out.2 HH.out).mono ?_)
  rintro e' w2 ⟨rfl, hb⟩
  have HB2 := Aside0.mk (below_step HB.out hb)
  have HK2 := Aside0.mk (blk_below HK.out hb)
  have HR02 := Aside0.mk (Kd.C_below HR0.out hb)
  have HR12 := Aside0.mk (Kd.C_below HR1.out hb)
  clear hb HB HK HR0 HR1 x0 x1 x2 x3
  obtain ⟨x0, x1, x2, x3⟩ := box_cells HK2.out
  go_wp2_with fail
  (with_reducible refine (Gn.cond_Negate.calls k kd md A0 c0 l0 a0 xs f _ HR02.out HC.out.1 HN.out).mono ?_)
  rintro e' w3 ⟨v, rfl, hS, hb⟩
  have HRd := Aside0.mk (rd_of_S hS)
  have HB3 := Aside0.mk (below_step HB2.out hb)
  have HR13 := Aside0.mk (Kd.C_below HR12.out hb)
  clear hS hb HB2 HK2 HR02 HR12 x0 x1 x2 x3
  by_cases he : ¬ (e = 0 ∧ f = 0)
  · have hor : (e != 0) = true ∨ ((e != 0) = false ∧ (f != 0) = true) := by
      by_cases h : e = 0
      · exact .inr ⟨by simp [h], by simp; exact fun h2 => he ⟨h, h2⟩⟩
      · exact .inl (by simp [h])
    clear he
    rcases hor with he | ⟨he, hf⟩
    all_goals
      go_wp2_with fail
      (with_reducible refine (Nr.headlandlaw03_awake.calls k true _ HW.out).mono ?_)
      rintro e' w4 ⟨rfl, hb⟩
      have HB4 := Aside0.mk (below_step HB3.out hb)
      clear hb
      go_wp2
      go_ret
      exact ⟨rfl, HB4.out⟩
  · have hef := Classical.not_not.1 he
    have HV2 := Aside0.mk (HV.out hef.1 hef.2)
    have H12 := Aside0.mk (H1.out hef.1 hef.2)
    have he0 : (e != 0) = false ∧ (f != 0) = false := ⟨by simp [hef.1], by simp [hef.2]⟩
    clear he hef HV H1
    obtain ⟨he, hf⟩ := he0
    obtain ⟨hxm, A, c, rfl, hC, hg⟩ := HRd.out
    obtain ⟨n0, hn0⟩ : ∃ n0 : Nat, n0 = (if is = true then 1 else 0) := ⟨_, rfl⟩
    have HN0 := Aside0.mk hn0
    have HCx := Aside0.mk hC
    have HG := Aside0.mk hg
    clear hn0 hC hg HRd hxm
    obtain ⟨N, hN⟩ : ∃ N, N = xs.length := ⟨_, rfl⟩
    rw [← hN]
    have HNn := Aside0.mk hN
    have hNb : N ≤ 1000 := by rw [hN]; exact HX.out
    clear hN
    go_upto_if 30 with fail
    go_cut [9] from 30 to 30 (fun v9 wx => v9 = .int .i64 (n0 : Int) ∧ wx = w3)
    case first =>
      cases is
      · go_wp2_with fail
        go_meet
        case rel => exact ⟨by rw [HN0.out]; rfl, rfl⟩
      · go_wp2_with fail
        go_meet
        case rel => exact ⟨by rw [HN0.out]; rfl, rfl⟩
    case rest =>
      obtain ⟨rfl, rfl⟩ := hcut
      go_wp2_with fail
      have HBz := Aside0.mk (Below.refl wc.heap.size wc)
      go_loopg [9, 33] N (fun kk v9 iv wr => ∃ j : Nat, j + kk = N ∧ iv = .int .i64 j ∧ v9 = .int .i64 ((cnt p xs n0 j : Nat) : Int) ∧ Below wc.heap.size wc wr)
      case atStart => exact ⟨0, by omega, rfl, by simp [cnt], HBz.out⟩
      case round =>
        obtain ⟨j, hj, rfl, rfl, hbw⟩ := hrel
        have HJ := Aside0.mk hj
        have HBw := Aside0.mk hbw
        have hjb : (j : Int) ≤ 1000 := by omega
        have hcb := cnt_le p xs n0 j
        have hn01 : n0 ≤ 1 := by
          have h := HN0.out
          by_cases hi : is = true
          · rw [if_pos hi] at h; omega
          · rw [if_neg hi] at h; omega
        obtain ⟨m, hm⟩ : ∃ m, m = cnt p xs n0 j := ⟨_, rfl⟩
        rw [← hm] at hcb ⊢
        have HM := Aside0.mk hm
        have hmb : (m : Int) ≤ 1001 := by omega
        clear hj hbw hm hcb hn01
        by_cases hlt : j < N
        · have hjx : j < xs.length := by rw [← HNn.out]; exact hlt
          obtain ⟨x, hx⟩ : ∃ x, xs[j]? = some x := ⟨_, List.getElem?_eq_getElem hjx⟩
          obtain ⟨g, rfl⟩ := HG.out (by omega)
          obtain ⟨A2, c2, y0, y1, y2, y3, hyl, hyc⟩ := elem (Kd.C_below HCx.out HBw.out) j hx
          obtain ⟨v1, v2, v3⟩ := HV2.out x (List.mem_of_getElem? hx)
          have HXj := Aside0.mk hx
          have HVx := Aside0.mk v1
          have HIx := Aside0.mk v3
          have HYl := Aside0.mk hyl
          have HYc := Aside0.mk hyc
          have hltd : decide ((j : Int) < (N : Int)) = true := decide_eq_true (by omega)
          have hlen : ((x.f2.f0.length : Int) != (l1.length : Int)) = false := by rw [v2]; simp
          have HLt := Aside0.mk hlt
          have hltb : (j : Int) < (N : Int) := by omega
          clear hx hjx v1 v2 v3 hyl hyc hlt
          go_upto_region 11 with fail
          obtain ⟨w5, hw5⟩ : ∃ w5, w5 = wr.alloc (.cells #[.int .i64 x.f0, .int .i64 x.f1, .slice A2 x.f2.f0.length c2, .int .i64 x.f2.f1] 26) := ⟨_, rfl⟩
          obtain ⟨g5, hg5⟩ : ∃ g5, g5 = wr.heap.size := ⟨_, rfl⟩
          rw [← hw5, ← hg5]
          have hb5 : Below wr.heap.size wr w5 := by rw [hw5]; exact below_alloc (Below.refl _ _) _
          have k5 : w5.heap[g5]? = some (.cells #[.int .i64 x.f0, .int .i64 x.f1, .slice A2 x.f2.f0.length c2, .int .i64 x.f2.f1] 26 (0, 0)) := by rw [hw5, hg5]; exact blk_new _ _
          have HB5 := Aside0.mk (below_step HBw.out hb5)
          have HK5 := Aside0.mk k5
          have HY5 := Aside0.mk (Kd.C_below HYc.out hb5)
          obtain ⟨z0, z1, z2, z3⟩ := box_cells k5
          clear hw5 hg5 hb5 k5 HYc y0 y1 y2 y3 HBw
          go_wp2_with fail
          (with_reducible refine (Aa.headlandref03_Valid.calls k x.f0 x.f1 A2 c2 x.f2.f0 x.f2.f1 true _ HY5.out HYl.out HVx.out).mono ?_)
          rintro e' w6 ⟨rfl, hb⟩
          have HB6 := Aside0.mk (below_step HB5.out hb)
          have k6 := blk_below HK5.out hb
          have HK6 := Aside0.mk k6
          have HY6 := Aside0.mk (Kd.C_below HY5.out hb)
          clear z0 z1 z2 z3
          obtain ⟨z0, z1, z2, z3⟩ := box_cells k6
          clear k6 hb HB5 HK5 HY5
          go_wp2_with fail
          (with_reducible refine (Ho.headlandref03_Is.calls k x.f0 x.f1 A2 c2 x.f2.f0 x.f2.f1 A1 c1 l1 (p x) _ HY6.out HYl.out (Kd.C_below HR13.out HB6.out) HC.out.2 HIx.out).mono ?_)
          rintro e' w7 ⟨rfl, hb⟩
          have HB7 := Aside0.mk (below_step HB6.out hb)
          clear hb HB6 HK6 HY6 z0 z1 z2 z3
          cases hp : p x with
          | true =>
            have HP := Aside0.mk hp
            clear hp
            go_wp2_with fail
            go_roundg (gk - 1)
            case measure => have := HJ.out; have := HLt.out; omega
            case rel => exact ⟨j + 1, by have := HJ.out; have := HLt.out; omega, by go_num, by rw [cnt_succ p xs n0 j x HXj.out, ← HM.out, if_pos HP.out]; go_num, HB7.out⟩
          | false =>
            have HP := Aside0.mk hp
            clear hp
            go_wp2_with fail
            go_roundg (gk - 1)
            case measure => have := HJ.out; have := HLt.out; omega
            case rel => exact ⟨j + 1, by have := HJ.out; have := HLt.out; omega, by go_num, by rw [cnt_succ p xs n0 j x HXj.out, ← HM.out, if_neg (by rw [HP.out]; exact Bool.false_ne_true)]; rfl, HB7.out⟩
        · have hltd : decide ((j : Int) < (N : Int)) = false := decide_eq_false (by omega)
          have hm1 : m = 1 := by
            have h1 := HM.out
            have h2 := HJ.out
            have h3 := HNn.out
            have h4 : j = xs.length := by omega
            rw [h1, h4, HN0.out]
            exact H12.out
          subst hm1
          have hltb : ¬ ((j : Int) < (N : Int)) := by omega
          clear hlt HM
          go_wp2_with fail
          (with_reducible refine (Nr.headlandlaw03_awake.calls k true _ HW.out).mono ?_)
          rintro e' w5 ⟨rfl, hb⟩
          have HB5 := Aside0.mk (below_step HB3.out (below_step HBw.out hb))
          clear hb
          go_wp2_with fail
          go_ret
          exact ⟨rfl, HB5.out⟩
end Go.Proofs.Ytcakhbhjdpplcaa.Oo
