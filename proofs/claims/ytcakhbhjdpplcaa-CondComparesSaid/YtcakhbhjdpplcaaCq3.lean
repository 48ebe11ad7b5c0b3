/- Contracts of functions of the given program (part Cq): what each call returns, and what becomes of the memory. No condition but those that stand in each. -/
import Derived.Test.YtcakhbhjdpplcaaCq0
import Derived.Test.YtcakhbhjdpplcaaCq2
namespace Go.Proofs.Ytcakhbhjdpplcaa.Cq
open Go.RowKit Go.Proofs.YtcakhbhjdpplcaaW.PrintWords Go.Proofs.YtcakhbhjdpplcaaW.PrintLast Go.Proofs.YtcakhbhjdpplcaaW.PrintMore
attribute [local go_sem] max2_int min2_int max_two min_two max_three min_three max_four min_four   -- for this text's walks alone
open Aside0 (mk)
set_option linter.unusedVariables false
set_option linter.unusedSimpArgs false

/-! ### headlandref02_Cmp: function 52 -/
def headlandref02_Cmp.f (k : Nat) (l0_0 : List Int) (a0_1 : Int) (l1_0 : List Int) (a1_1 : Int) : Option (Int) := (some (([] : List Int) : List Int)).bind fun y123 => (if y123.length + l0_0.length < 17592186044416 then ((some (y123 ++ l0_0 : List Int)).bind fun y126 => ((some (([a0_1] : List Int) : List Int)).bind fun y129 => (if y126.length + y129.length < 17592186044416 then ((some (([] : List Int) : List Int)).bind fun y135 => (if y135.length + l1_0.length < 17592186044416 then ((some (y135 ++ l1_0 : List Int)).bind fun y138 => ((some (([a1_1] : List Int) : List Int)).bind fun y141 => (if y138.length + y141.length < 17592186044416 then ((headlandref02_Order.f k (y126 ++ y129) (y138 ++ y141)).bind fun t147 => (some t147)) else (none)))) else (none))) else (none)))) else (none))
theorem headlandref02_Cmp.mono : ∀ a0 a1 a2 a3 k, LeO (headlandref02_Cmp.f k a0 a1 a2 a3) (headlandref02_Cmp.f (k + 1) a0 a1 a2 a3) := by
  intro a0 a1 a2 a3 k
  unfold headlandref02_Cmp.f
  repeat' first
      | (with_reducible exact headlandref02_Order.mono _ _ _)
      | (with_reducible exact LeO.refl _)
      | (with_reducible exact LeO.none _)
      | (with_reducible refine LeO.ite ?_ ?_)
      | (with_reducible refine LeO.bind ?_ (fun _ => ?_))
      | exact headlandref02_Order.mono _ _ _
      | exact LeO.none _
      | refine LeO.ite ?_ ?_
      | refine LeO.bind ?_ (fun _ => ?_)
def headlandref02_Cmp.T1 : Bool × List (List Nat × List Nat) := (true, [([], []), ([], []), ([1], [1]), ([0, 2], [0, 2]), ([], []), ([4], [4]), ([5], [5]), ([3, 6, 3], [3, 6]), ([], []), ([], []), ([9], [9]), ([8, 10, 7], [8, 10]), ([], []), ([12], [12]), ([13], [13]), ([11, 14, 11], [11, 14]), ([7, 15, 15], [7, 15]), ([16, 16, 0, 1, 2, 3, 4, 5, 6, 7, 8, 9, 10, 11, 12, 13, 14, 15, 16], [16])])
def headlandref02_Cmp.B1 : List Nat := [0, 0, 2, 7, 0, 16, 48, 127, 0, 0, 512, 2047, 0, 4096, 12288, 32767, 65535, 131071]
theorem headlandref02_Cmp.tab1 : rtab .any (opsOf Try.f52 1) = headlandref02_Cmp.T1 := by kernel_rfl
theorem headlandref02_Cmp.bits1 : waitsOk headlandref02_Cmp.T1.2 headlandref02_Cmp.B1 = true := by kernel_rfl
set_option maxHeartbeats 8000000 in
set_option maxRecDepth 100000 in
theorem headlandref02_Cmp.calls (k : Nat) (A0_0 : Option Addr) (c0_0 : Nat) (l0_0 : List Int) (a0_1 : Int) (A1_0 : Option Addr) (c1_0 : Nat) (l1_0 : List Int) (a1_1 : Int) (r : Int) (w : World) (hr0_0 : Kd.C (Kd.int .i64) w A0_0 l0_0.length l0_0) (hc0_0 : l0_0.length ≤ c0_0) (hr1_0 : Kd.C (Kd.int .i64) w A1_0 l1_0.length l1_0) (hc1_0 : l1_0.length ≤ c1_0) (h : headlandref02_Cmp.f k l0_0 a0_1 l1_0 a1_1 = some r) :
    Calls Try.prog 52 #[.agg #[.slice A0_0 l0_0.length c0_0, .int .i64 a0_1], .agg #[.slice A1_0 l1_0.length c1_0, .int .i64 a1_1]] w fun e w' => e = .returned (.int .i64 r) ∧ Below w.heap.size w w' := by
  have hu24 := Try.underlying24
  have HR0_0 := mk hr0_0
  have HC0_0 := mk hc0_0
  clear hr0_0 hc0_0
  have HR1_0 := mk hr1_0
  have HC1_0 := mk hc1_0
  clear hr1_0 hc1_0
  have HB := mk (Below.refl w.heap.size w)
  have H : ((some (([] : List Int) : List Int)).bind fun y123 => (if y123.length + l0_0.length < 17592186044416 then ((some (y123 ++ l0_0 : List Int)).bind fun y126 => ((some (([a0_1] : List Int) : List Int)).bind fun y129 => (if y126.length + y129.length < 17592186044416 then ((some (([] : List Int) : List Int)).bind fun y135 => (if y135.length + l1_0.length < 17592186044416 then ((some (y135 ++ l1_0 : List Int)).bind fun y138 => ((some (([a1_1] : List Int) : List Int)).bind fun y141 => (if y138.length + y141.length < 17592186044416 then ((headlandref02_Order.f k (y126 ++ y129) (y138 ++ y141)).bind fun t147 => (some t147)) else (none)))) else (none))) else (none)))) else (none))) = some r := h
  clear h
  obtain ⟨y123, hy123⟩ : ∃ y_ : List Int, y_ = (([] : List Int)) := ⟨_, rfl⟩
  replace H : (if y123.length + l0_0.length < 17592186044416 then ((some (y123 ++ l0_0 : List Int)).bind fun y126 => ((some (([a0_1] : List Int) : List Int)).bind fun y129 => (if y126.length + y129.length < 17592186044416 then ((some (([] : List Int) : List Int)).bind fun y135 => (if y135.length + l1_0.length < 17592186044416 then ((some (y135 ++ l1_0 : List Int)).bind fun y138 => ((some (([a1_1] : List Int) : List Int)).bind fun y141 => (if y138.length + y141.length < 17592186044416 then ((headlandref02_Order.f k (y126 ++ y129) (y138 ++ y141)).bind fun t147 => (some t147)) else (none)))) else (none))) else (none)))) else (none)) = some r := by first | (rw [hy123]; with_reducible exact H) | (have H2_ := (Option.bind_some _ _).symm.trans H; rw [hy123]; with_reducible exact H2_) | (have H2_ := (Option.bind_some _ _).symm.trans H; with_reducible exact H2_) | with_reducible exact H | (rw [hy123]; exact H) | exact H
  have Ny123 := mk hy123
  clear hy123
  by_cases c3 : y123.length + l0_0.length < 17592186044416
  · rw [if_pos c3] at H
    have LMc3 := mk c3
    clear c3
    obtain ⟨y126, hy126⟩ : ∃ y_ : List Int, y_ = (y123 ++ l0_0) := ⟨_, rfl⟩
    replace H : ((some (([a0_1] : List Int) : List Int)).bind fun y129 => (if y126.length + y129.length < 17592186044416 then ((some (([] : List Int) : List Int)).bind fun y135 => (if y135.length + l1_0.length < 17592186044416 then ((some (y135 ++ l1_0 : List Int)).bind fun y138 => ((some (([a1_1] : List Int) : List Int)).bind fun y141 => (if y138.length + y141.length < 17592186044416 then ((headlandref02_Order.f k (y126 ++ y129) (y138 ++ y141)).bind fun t147 => (some t147)) else (none)))) else (none))) else (none))) = some r := by first | (rw [hy126]; with_reducible exact H) | (have H2_ := (Option.bind_some _ _).symm.trans H; rw [hy126]; with_reducible exact H2_) | (have H2_ := (Option.bind_some _ _).symm.trans H; with_reducible exact H2_) | with_reducible exact H | (rw [hy126]; exact H) | exact H
    have Ny126 := mk hy126
    clear hy126
    obtain ⟨y129, hy129⟩ : ∃ y_ : List Int, y_ = (([a0_1] : List Int)) := ⟨_, rfl⟩
    replace H : (if y126.length + y129.length < 17592186044416 then ((some (([] : List Int) : List Int)).bind fun y135 => (if y135.length + l1_0.length < 17592186044416 then ((some (y135 ++ l1_0 : List Int)).bind fun y138 => ((some (([a1_1] : List Int) : List Int)).bind fun y141 => (if y138.length + y141.length < 17592186044416 then ((headlandref02_Order.f k (y126 ++ y129) (y138 ++ y141)).bind fun t147 => (some t147)) else (none)))) else (none))) else (none)) = some r := by first | (rw [hy129]; with_reducible exact H) | (have H2_ := (Option.bind_some _ _).symm.trans H; rw [hy129]; with_reducible exact H2_) | (have H2_ := (Option.bind_some _ _).symm.trans H; with_reducible exact H2_) | with_reducible exact H | (rw [hy129]; exact H) | exact H
    have Ny129 := mk hy129
    clear hy129
    by_cases c4 : y126.length + y129.length < 17592186044416
    · rw [if_pos c4] at H
      have LMc4 := mk c4
      clear c4
      obtain ⟨y132, hy132⟩ : ∃ y_ : List Int, y_ = (y126 ++ y129) := ⟨_, rfl⟩
      replace H : ((some (([] : List Int) : List Int)).bind fun y135 => (if y135.length + l1_0.length < 17592186044416 then ((some (y135 ++ l1_0 : List Int)).bind fun y138 => ((some (([a1_1] : List Int) : List Int)).bind fun y141 => (if y138.length + y141.length < 17592186044416 then ((headlandref02_Order.f k y132 (y138 ++ y141)).bind fun t147 => (some t147)) else (none)))) else (none))) = some r := by first | (rw [hy132]; with_reducible exact H) | (have H2_ := (Option.bind_some _ _).symm.trans H; rw [hy132]; with_reducible exact H2_) | (have H2_ := (Option.bind_some _ _).symm.trans H; with_reducible exact H2_) | with_reducible exact H | (rw [hy132]; exact H) | exact H
      have Ny132 := mk hy132
      clear hy132
      obtain ⟨y135, hy135⟩ : ∃ y_ : List Int, y_ = (([] : List Int)) := ⟨_, rfl⟩
      replace H : (if y135.length + l1_0.length < 17592186044416 then ((some (y135 ++ l1_0 : List Int)).bind fun y138 => ((some (([a1_1] : List Int) : List Int)).bind fun y141 => (if y138.length + y141.length < 17592186044416 then ((headlandref02_Order.f k y132 (y138 ++ y141)).bind fun t147 => (some t147)) else (none)))) else (none)) = some r := by first | (rw [hy135]; with_reducible exact H) | (have H2_ := (Option.bind_some _ _).symm.trans H; rw [hy135]; with_reducible exact H2_) | (have H2_ := (Option.bind_some _ _).symm.trans H; with_reducible exact H2_) | with_reducible exact H | (rw [hy135]; exact H) | exact H
      have Ny135 := mk hy135
      clear hy135
      by_cases c5 : y135.length + l1_0.length < 17592186044416
      · rw [if_pos c5] at H
        have LMc5 := mk c5
        clear c5
        obtain ⟨y138, hy138⟩ : ∃ y_ : List Int, y_ = (y135 ++ l1_0) := ⟨_, rfl⟩
        replace H : ((some (([a1_1] : List Int) : List Int)).bind fun y141 => (if y138.length + y141.length < 17592186044416 then ((headlandref02_Order.f k y132 (y138 ++ y141)).bind fun t147 => (some t147)) else (none))) = some r := by first | (rw [hy138]; with_reducible exact H) | (have H2_ := (Option.bind_some _ _).symm.trans H; rw [hy138]; with_reducible exact H2_) | (have H2_ := (Option.bind_some _ _).symm.trans H; with_reducible exact H2_) | with_reducible exact H | (rw [hy138]; exact H) | exact H
        have Ny138 := mk hy138
        clear hy138
        obtain ⟨y141, hy141⟩ : ∃ y_ : List Int, y_ = (([a1_1] : List Int)) := ⟨_, rfl⟩
        replace H : (if y138.length + y141.length < 17592186044416 then ((headlandref02_Order.f k y132 (y138 ++ y141)).bind fun t147 => (some t147)) else (none)) = some r := by first | (rw [hy141]; with_reducible exact H) | (have H2_ := (Option.bind_some _ _).symm.trans H; rw [hy141]; with_reducible exact H2_) | (have H2_ := (Option.bind_some _ _).symm.trans H; with_reducible exact H2_) | with_reducible exact H | (rw [hy141]; exact H) | exact H
        have Ny141 := mk hy141
        clear hy141
        by_cases c6 : y138.length + y141.length < 17592186044416
        · rw [if_pos c6] at H
          have LMc6 := mk c6
          clear c6
          obtain ⟨y144, hy144⟩ : ∃ y_ : List Int, y_ = (y138 ++ y141) := ⟨_, rfl⟩
          replace H : ((headlandref02_Order.f k y132 y144).bind fun t147 => (some t147)) = some r := by first | (rw [hy144]; with_reducible exact H) | (have H2_ := (Option.bind_some _ _).symm.trans H; rw [hy144]; with_reducible exact H2_) | (have H2_ := (Option.bind_some _ _).symm.trans H; with_reducible exact H2_) | with_reducible exact H | (rw [hy144]; exact H) | exact H
          have Ny144 := mk hy144
          clear hy144; replace H := Option.bind_eq_some_iff.mp H
          obtain ⟨t147, A70, H⟩ := H
          replace H : (some t147) = some r := H
          have A7 := mk A70
          clear A70
          obtain rfl := Option.some.inj H
          go_enter Try.func52, Try.ntmps52
          try go_wp2_with (first | ((with_reducible refine gate_dst (N := 2) rfl ?_); refine box_event ?hg (N := 2) ?hd (cs := #[.slice A0_0 l0_0.length c0_0, .int .i64 a0_1]) (t := 24) ?hr ?_; (case hd => rfl); (case hg => rfl); (case hr => first | (go_simp; done) | (go_simp; rfl)); intro gb121 hg w8 hbox hb; have n0_ := mk (below_step HB.out hb); have BK121 := mk (hbox); have GW121 := mk ((by rw [hg]; exact (below_size HB.out) : w.heap.size ≤ gb121)); have GE121 := GW121; replace HB := n0_; clear n0_; clear hb hbox hg) | ((with_reducible refine gate_dst (N := 3) rfl ?_); refine box_event ?hg (N := 3) ?hd (cs := #[.slice A1_0 l1_0.length c1_0, .int .i64 a1_1]) (t := 24) ?hr ?_; (case hd => rfl); (case hg => rfl); (case hr => first | (go_simp; done) | (go_simp; rfl)); intro gb122 hg w9 hbox hb; have n0_ := mk (blk_below BK121.out hb); have n1_ := mk (below_step HB.out hb); have BK122 := mk (hbox); have GW122 := mk ((by rw [hg]; exact (below_size HB.out) : w.heap.size ≤ gb122)); have GE122 := GW122; have NB121_122 := mk ((by rw [hg]; exact Nat.ne_of_lt (blk_lt BK121.out) : gb121 ≠ gb122)); have NB122_121 := mk NB121_122.out.symm; replace BK121 := n0_; replace HB := n1_; clear n0_ n1_; clear hb hbox hg))
          have n0_ := mk (blk_drew BK121.out); have n1_ := mk (blk_drew BK122.out); have n2_ := mk (below_drew1 HB.out); clear BK121; clear BK122; clear HB; have BK121 := n0_; have BK122 := n1_; have HB := n2_; clear n0_ n1_ n2_
          refine start_ (n := 18) (S := fun w' => w'.cell? ⟨gb121, 0, none⟩ = some (.slice A0_0 l0_0.length c0_0) ∧ w'.cell? ⟨gb121, 1, none⟩ = some (.int .i64 a0_1) ∧ w'.cell? ⟨gb122, 0, none⟩ = some (.slice A1_0 l1_0.length c1_0) ∧ w'.cell? ⟨gb122, 1, none⟩ = some (.int .i64 a1_1)) (ds := []) #[false, false, false, false, false, false, false, false, false, false, false, false, false, false, false, false, false, false] (by kernel_rfl) rfl rfl ⟨(blk_cell BK121.out 0).trans rfl, (blk_cell BK121.out 1).trans rfl, (blk_cell BK122.out 0).trans rfl, (blk_cell BK122.out 1).trans rfl⟩ (fun hHeld => ?_); refine with_tabW headlandref02_Cmp.tab1 headlandref02_Cmp.bits1 (fun HT_ HW_ => ?_)
          generalize w9.drew = w10 at BK121 BK122 HB hHeld ⊢
          refine pure_ (i := 1) (N := some 6) (v := ?_) (a' := ?_) #[false, true, false, false, false, false, false, false, false, false, false, false, false, false, false, false, false, false] rfl rfl (any_of HT_.out (by kernel_rfl)) (fun _ _ _ h => h) (Or.inl ⟨by rfl, ?_⟩) ?_ ?_
          rotate_left
          · intro w'
            go_simp
            with_reducible rfl
          rotate_left
          · simp only [Act.put, List.setIfInBounds_toArray, List.set_cons_zero, List.set_cons_succ, i64_w, i32_w]
            rfl
          refine pure_ (i := 4) (N := some 9) (v := ?_) (a' := ?_) #[false, true, false, false, true, false, false, false, false, false, false, false, false, false, false, false, false, false] rfl rfl (any_of HT_.out (by kernel_rfl)) (fun _ _ _ h => h) (Or.inl ⟨by rfl, ?_⟩) ?_ ?_
          rotate_left
          · intro w'
            go_simp
            with_reducible rfl
          rotate_left
          · simp only [Act.put, List.setIfInBounds_toArray, List.set_cons_zero, List.set_cons_succ, i64_w, i32_w]
            rfl
          refine pure_ (i := 9) (N := some 14) (v := ?_) (a' := ?_) #[false, true, false, false, true, false, false, false, false, true, false, false, false, false, false, false, false, false] rfl rfl (any_of HT_.out (by kernel_rfl)) (fun _ _ _ h => h) (Or.inl ⟨by rfl, ?_⟩) ?_ ?_
          rotate_left
          · intro w'
            go_simp
            with_reducible rfl
          rotate_left
          · simp only [Act.put, List.setIfInBounds_toArray, List.set_cons_zero, List.set_cons_succ, i64_w, i32_w]
            rfl
          refine pure_ (i := 12) (N := some 17) (v := ?_) (a' := ?_) #[false, true, false, false, true, false, false, false, false, true, false, false, true, false, false, false, false, false] rfl rfl (any_of HT_.out (by kernel_rfl)) (fun _ _ _ h => h) (Or.inl ⟨by rfl, ?_⟩) ?_ ?_
          rotate_left
          · intro w'
            go_simp
            with_reducible rfl
          rotate_left
          · simp only [Act.put, List.setIfInBounds_toArray, List.set_cons_zero, List.set_cons_succ, i64_w, i32_w]
            rfl
          refine take_ (i := 2) (N := some 7) (v := ?_) (a' := ?_) #[false, true, true, false, true, false, false, false, false, true, false, false, true, false, false, false, false, false] rfl rfl (take_ofW HT_.out HW_.out (by kernel_rfl)) (fun _ _ _ h => h) (Or.inl ⟨by rfl, ?_⟩) hHeld ?_ ?_
          rotate_left
          · rintro w' ⟨s0, s1, s2, s3⟩
            go_simp
            with_reducible rfl
          rotate_left
          · simp only [Act.put, List.setIfInBounds_toArray, List.set_cons_zero, List.set_cons_succ, i64_w, i32_w]
            rfl
          refine take_ (i := 5) (N := some 10) (v := ?_) (a' := ?_) #[false, true, true, false, true, true, false, false, false, true, false, false, true, false, false, false, false, false] rfl rfl (take_ofW HT_.out HW_.out (by kernel_rfl)) (fun _ _ _ h => h) (Or.inl ⟨by rfl, ?_⟩) hHeld ?_ ?_
          rotate_left
          · rintro w' ⟨s0, s1, s2, s3⟩
            go_simp
            with_reducible rfl
          rotate_left
          · simp only [Act.put, List.setIfInBounds_toArray, List.set_cons_zero, List.set_cons_succ, i64_w, i32_w]
            rfl
          refine take_ (i := 10) (N := some 15) (v := ?_) (a' := ?_) #[false, true, true, false, true, true, false, false, false, true, true, false, true, false, false, false, false, false] rfl rfl (take_ofW HT_.out HW_.out (by kernel_rfl)) (fun _ _ _ h => h) (Or.inl ⟨by rfl, ?_⟩) hHeld ?_ ?_
          rotate_left
          · rintro w' ⟨s0, s1, s2, s3⟩
            go_simp
            with_reducible rfl
          rotate_left
          · simp only [Act.put, List.setIfInBounds_toArray, List.set_cons_zero, List.set_cons_succ, i64_w, i32_w]
            rfl
          refine take_ (i := 13) (N := some 18) (v := ?_) (a' := ?_) #[false, true, true, false, true, true, false, false, false, true, true, false, true, true, false, false, false, false] rfl rfl (take_ofW HT_.out HW_.out (by kernel_rfl)) (fun _ _ _ h => h) (Or.inl ⟨by rfl, ?_⟩) hHeld ?_ ?_
          rotate_left
          · rintro w' ⟨s0, s1, s2, s3⟩
            go_simp
            with_reducible rfl
          rotate_left
          · simp only [Act.put, List.setIfInBounds_toArray, List.set_cons_zero, List.set_cons_succ, i64_w, i32_w]
            rfl
          refine join_ (σ := Value × Value × Value × Value × Value × Value × Value) 3 #[true, true, true, true, true, true, true, true, true, true, true, true, true, true, true, false, false, false] (fun s_ => [(5, s_.1), (8, s_.2.1), (11, s_.2.2.1), (12, s_.2.2.2.1), (13, s_.2.2.2.2.1), (16, s_.2.2.2.2.2.1), (19, s_.2.2.2.2.2.2)]) (fun s_ w' => (w'.cell? ⟨gb121, 0, none⟩ = some (.slice A0_0 l0_0.length c0_0) ∧ w'.cell? ⟨gb121, 1, none⟩ = some (.int .i64 a0_1) ∧ w'.cell? ⟨gb122, 0, none⟩ = some (.slice A1_0 l1_0.length c1_0) ∧ w'.cell? ⟨gb122, 1, none⟩ = some (.int .i64 a1_1)) ∧ (Kd.R (Kd.int .i64) 3 w' w.heap.size (fun k_ => some k_ ≠ (s_.2.2.2.1 : Value).ownBlock ∧ some k_ ≠ (s_.2.2.2.2.2.1 : Value).ownBlock ∧ some k_ ≠ (s_.2.2.2.2.2.2 : Value).ownBlock) s_.2.2.1 y129) ∧ (Kd.R (Kd.int .i64) 3 w' w.heap.size (fun k_ => some k_ ≠ (s_.2.2.1 : Value).ownBlock ∧ some k_ ≠ (s_.2.2.2.2.2.1 : Value).ownBlock ∧ some k_ ≠ (s_.2.2.2.2.2.2 : Value).ownBlock) s_.2.2.2.1 y132) ∧ (Kd.R (Kd.int .i64) 3 w' w.heap.size (fun k_ => some k_ ≠ (s_.2.2.1 : Value).ownBlock ∧ some k_ ≠ (s_.2.2.2.1 : Value).ownBlock ∧ some k_ ≠ (s_.2.2.2.2.2.2 : Value).ownBlock) s_.2.2.2.2.2.1 y138) ∧ (Kd.R (Kd.int .i64) 3 w' w.heap.size (fun k_ => some k_ ≠ (s_.2.2.1 : Value).ownBlock ∧ some k_ ≠ (s_.2.2.2.1 : Value).ownBlock ∧ some k_ ≠ (s_.2.2.2.2.2.1 : Value).ownBlock) s_.2.2.2.2.2.2 y141) ∧ (w'.heap[gb121]? = some (.cells #[.slice A0_0 l0_0.length c0_0, .int .i64 a0_1] 24 (0, 0))) ∧ (w'.heap[gb122]? = some (.cells #[.slice A1_0 l1_0.length c1_0, .int .i64 a1_1] 24 (0, 0))) ∧ (Below w.heap.size w w')) ?_ ?_
          · rintro ⟨v124, v127, v130, v133, v136, v139, v142⟩ w23 ⟨hS_, h0_, h1_, h2_, h3_, h4_, h5_, h6_⟩
            have n0_ : Aside0 (Kd.R (Kd.int .i64) 3 w23 w.heap.size (fun k_ => some k_ ≠ (v133 : Value).ownBlock ∧ some k_ ≠ (v139 : Value).ownBlock ∧ some k_ ≠ (v142 : Value).ownBlock) v130 y129) := ⟨h0_⟩; have n1_ : Aside0 (Kd.R (Kd.int .i64) 3 w23 w.heap.size (fun k_ => some k_ ≠ (v130 : Value).ownBlock ∧ some k_ ≠ (v139 : Value).ownBlock ∧ some k_ ≠ (v142 : Value).ownBlock) v133 y132) := ⟨h1_⟩; have n2_ : Aside0 (Kd.R (Kd.int .i64) 3 w23 w.heap.size (fun k_ => some k_ ≠ (v130 : Value).ownBlock ∧ some k_ ≠ (v133 : Value).ownBlock ∧ some k_ ≠ (v142 : Value).ownBlock) v139 y138) := ⟨h2_⟩; have n3_ : Aside0 (Kd.R (Kd.int .i64) 3 w23 w.heap.size (fun k_ => some k_ ≠ (v130 : Value).ownBlock ∧ some k_ ≠ (v133 : Value).ownBlock ∧ some k_ ≠ (v139 : Value).ownBlock) v142 y141) := ⟨h3_⟩; have n4_ : Aside0 (w23.heap[gb121]? = some (.cells #[.slice A0_0 l0_0.length c0_0, .int .i64 a0_1] 24 (0, 0))) := ⟨h4_⟩; have n5_ : Aside0 (w23.heap[gb122]? = some (.cells #[.slice A1_0 l1_0.length c1_0, .int .i64 a1_1] 24 (0, 0))) := ⟨h5_⟩; have n6_ : Aside0 (Below w.heap.size w w23) := ⟨h6_⟩; clear BK121; clear BK122; clear HB; clear h0_ h1_ h2_ h3_ h4_ h5_ h6_; have HO131 := n0_; have HO134 := n1_; have HO140 := n2_; have HO143 := n3_; have BK121 := n4_; have BK122 := n5_; have HB := n6_; clear n0_ n1_ n2_ n3_ n4_ n5_ n6_
            have hHeld : w23.cell? ⟨gb121, 0, none⟩ = some (.slice A0_0 l0_0.length c0_0) ∧ w23.cell? ⟨gb121, 1, none⟩ = some (.int .i64 a0_1) ∧ w23.cell? ⟨gb122, 0, none⟩ = some (.slice A1_0 l1_0.length c1_0) ∧ w23.cell? ⟨gb122, 1, none⟩ = some (.int .i64 a1_1) := hS_
            obtain ⟨Ao25, co25, eo25⟩ := Kd.R_slice HO143.out
            (first | subst eo25 | (injection eo25 with f1_ f2_ f3_; have f4_ := f1_.symm; have f5_ := f3_.symm; clear f1_ f2_ f3_; subst f4_; subst f5_))
            refine norm_ (a' := ?_) ?_ ?_
            rotate_left
            · simp only [putAll, Act.put, List.setIfInBounds_toArray, List.set_cons_zero, List.set_cons_succ]
              rfl
            refine one_ (i := 15) (N := some 20) #[true, true, true, true, true, true, true, true, true, true, true, true, true, true, true, true, false, false] rfl rfl (one_of HT_.out (by kernel_rfl)) (by decide) (fun K hK => ?_)
            refine Kd.R_append_rows_step (Kd.int .i64) (w0 := w) w.heap.size (by rfl) (.tmp 16) (.tmp 19) 22 3 (.int .i64 0) 8 rfl Try.underlying22 info3 rfl (by decide) (by omega) v139 y138 y141 _ _ _ (fun k_ => some k_ ≠ (v130 : Value).ownBlock ∧ some k_ ≠ (v133 : Value).ownBlock ∧ some k_ ≠ (.slice Ao25 y141.length co25 : Value).ownBlock) (fun _ => False) rfl rfl ?aO ?aR (fun _ _ h => h) (fun _ h => h.elim) ?aF ?aB ?aS ?aL ?_
            (case aR => repeat (first | exact (Kd.R_reads' HO143.out).2.2 | (with_reducible refine Kd.C_alloc ?_ _) | (with_reducible refine Kd.C_drewN ?_ _) | (with_reducible refine Kd.C_drew ?_)))
            (case aB => exact HB.out)
            (case aF => exact (fun k_ hk => ⟨Kd.fresh' (Kd.R_lt HO131.out) k_ hk, Kd.fresh' (Kd.R_lt HO134.out) k_ hk, Kd.fresh' (Kd.R_lt HO143.out) k_ hk⟩))
            (case aO => exact HO140.out)
            (case aS => exact (below_size HB.out))
            (case aL => have := LMc6.out; omega)
            intro v145 w24 ho hb hg hat
            rw [← Ny144.out] at ho
            have n0_ := mk (blk_grown (g := gb121) (o := .cells #[.slice A0_0 l0_0.length c0_0, .int .i64 a0_1] 24 (0, 0)) BK121.out hg (Kd.R_ne HO140.out BK121.out (by decide))); have n1_ := mk (blk_grown (g := gb122) (o := .cells #[.slice A1_0 l1_0.length c1_0, .int .i64 a1_1] 24 (0, 0)) BK122.out hg (Kd.R_ne HO140.out BK122.out (by decide))); have n2_ := mk (Kd.R_after (ok := (fun k_ => some k_ ≠ (v133 : Value).ownBlock ∧ some k_ ≠ (.slice Ao25 y141.length co25 : Value).ownBlock)) (by exact Kd.R_mono HO131.out (fun _ hk => ⟨⟨hk.1, hk.2.2⟩, hk.2.1⟩)) hg hat); have n3_ := mk (Kd.R_after (ok := (fun k_ => some k_ ≠ (v130 : Value).ownBlock ∧ some k_ ≠ (.slice Ao25 y141.length co25 : Value).ownBlock)) (by exact Kd.R_mono HO134.out (fun _ hk => ⟨⟨hk.1, hk.2.2⟩, hk.2.1⟩)) hg hat); have n4_ := mk (Kd.R_after (ok := (fun k_ => some k_ ≠ (v130 : Value).ownBlock ∧ some k_ ≠ (v133 : Value).ownBlock)) (by exact Kd.R_mono HO143.out (fun _ hk => ⟨⟨hk.1, hk.2.1⟩, hk.2.2⟩)) hg hat); have n5_ := mk (hb); have HO146 := mk (ho); clear HO140; replace BK121 := n0_; replace BK122 := n1_; replace HO131 := n2_; replace HO134 := n3_; replace HO143 := n4_; replace HB := n5_; clear n0_ n1_ n2_ n3_ n4_ n5_; clear ho hb hg hat
            obtain ⟨Ao26, co26, eo26⟩ := Kd.R_slice HO134.out
            (first | subst eo26 | (injection eo26 with f1_ f2_ f3_; have f4_ := f1_.symm; have f5_ := f3_.symm; clear f1_ f2_ f3_; subst f4_; subst f5_))
            obtain ⟨Ao27, co27, eo27⟩ := Kd.R_slice HO146.out
            (first | subst eo27 | (injection eo27 with f1_ f2_ f3_; have f4_ := f1_.symm; have f5_ := f3_.symm; clear f1_ f2_ f3_; subst f4_; subst f5_))
            refine hK.out _ _ ⟨(blk_cell BK121.out 0).trans rfl, (blk_cell BK121.out 1).trans rfl, (blk_cell BK122.out 0).trans rfl, (blk_cell BK122.out 1).trans rfl⟩ (fun hHeld => ?_)
            clear hK K
            refine norm_ (a' := ?_) ?_ ?_
            rotate_left
            · show Act.put _ (some 20) _ = _
              simp only [Act.put, List.setIfInBounds_toArray, List.set_cons_zero, List.set_cons_succ, i64_w, i32_w]
              rfl
            refine one_ (i := 16) (N := some 21) #[true, true, true, true, true, true, true, true, true, true, true, true, true, true, true, true, true, false] rfl rfl (one_of HT_.out (by kernel_rfl)) (by decide) (fun K hK => ?_)
            refine goes_ Try.func50 (by kernel_rfl) rfl #[.slice Ao26 y132.length co26, .slice Ao27 y144.length co27] (by rfl) rfl rfl (by (try simp only [List.map_toArray, List.map_cons, List.map_nil]); first | done | rfl | (simp only [List.length_drop, List.length_take]; rfl)) ?_
            with_reducible refine (headlandref02_Order.calls k _ _ y132 _ _ y144 t147 _ ?side1 ?side2 ?side3 ?side4 A7.out).mono ?_
            (case side1 => repeat (first | exact (Kd.R_reads' HO134.out).2.2 | (with_reducible refine Kd.C_alloc ?_ _) | (with_reducible refine Kd.C_drewN ?_ _) | (with_reducible refine Kd.C_drew ?_)))
            (case side2 => exact (Kd.R_reads' HO134.out).2.1)
            (case side3 => repeat (first | exact (Kd.R_reads' HO146.out).2.2 | (with_reducible refine Kd.C_alloc ?_ _) | (with_reducible refine Kd.C_drewN ?_ _) | (with_reducible refine Kd.C_drew ?_)))
            (case side4 => exact (Kd.R_reads' HO146.out).2.1)
            rintro e w' ⟨rfl, ⟨nd, rfl⟩⟩
            refine ⟨_, rfl, ?_⟩
            refine hK.out _ _ ⟨(blk_cell BK121.out 0).trans rfl, (blk_cell BK121.out 1).trans rfl, (blk_cell BK122.out 0).trans rfl, (blk_cell BK122.out 1).trans rfl⟩ (fun hHeld => ?_)
            clear hK K
            refine norm_ (a' := ?_) ?_ ?_
            rotate_left
            · show Act.put _ (some 21) _ = _
              simp only [Act.put, List.setIfInBounds_toArray, List.set_cons_zero, List.set_cons_succ, i64_w, i32_w]
              rfl
            refine pure_ (i := 17) (N := some 4) (v := ?_) (a' := ?_) #[true, true, true, true, true, true, true, true, true, true, true, true, true, true, true, true, true, true] rfl rfl (any_of HT_.out (by kernel_rfl)) (fun _ _ _ h => h) (Or.inl ⟨by rfl, ?_⟩) ?_ ?_
            rotate_left
            · intro w'
              go_simp
              with_reducible rfl
            rotate_left
            · simp only [Act.put, List.setIfInBounds_toArray, List.set_cons_zero, List.set_cons_succ, i64_w, i32_w]
              rfl
            refine done_ (done_of HT_.out (by kernel_rfl)) ?_
            try go_wp2
            go_ret
            exact ⟨by first | rfl | (simp [errW_none, errW_some] <;> rfl) | (simp [*, errW_none, errW_some] <;> rfl), by repeat (first | (with_reducible first | exact HB.out | apply pw_below_drewN) | exact HB.out)⟩
          intro hJ0_3_6_7_8_11_14
          refine join_ (σ := Value × Value × Value × Value × Value × Value) 4 #[true, true, true, true, true, true, true, true, true, true, true, true, true, true, false, false, false, false] (fun s_ => [(5, s_.1), (8, s_.2.1), (11, s_.2.2.1), (12, s_.2.2.2.1), (13, s_.2.2.2.2.1), (16, s_.2.2.2.2.2)]) (fun s_ w' => (w'.cell? ⟨gb121, 0, none⟩ = some (.slice A0_0 l0_0.length c0_0) ∧ w'.cell? ⟨gb121, 1, none⟩ = some (.int .i64 a0_1) ∧ w'.cell? ⟨gb122, 0, none⟩ = some (.slice A1_0 l1_0.length c1_0) ∧ w'.cell? ⟨gb122, 1, none⟩ = some (.int .i64 a1_1)) ∧ (Kd.R (Kd.int .i64) 3 w' w.heap.size (fun k_ => some k_ ≠ (s_.2.2.2.1 : Value).ownBlock ∧ some k_ ≠ (s_.2.2.2.2.2 : Value).ownBlock) s_.2.2.1 y129) ∧ (Kd.R (Kd.int .i64) 3 w' w.heap.size (fun k_ => some k_ ≠ (s_.2.2.1 : Value).ownBlock ∧ some k_ ≠ (s_.2.2.2.2.2 : Value).ownBlock) s_.2.2.2.1 y132) ∧ (Kd.R (Kd.int .i64) 3 w' w.heap.size (fun k_ => some k_ ≠ (s_.2.2.1 : Value).ownBlock ∧ some k_ ≠ (s_.2.2.2.1 : Value).ownBlock) s_.2.2.2.2.2 y138) ∧ (w'.heap[gb121]? = some (.cells #[.slice A0_0 l0_0.length c0_0, .int .i64 a0_1] 24 (0, 0))) ∧ (w'.heap[gb122]? = some (.cells #[.slice A1_0 l1_0.length c1_0, .int .i64 a1_1] 24 (0, 0))) ∧ (Below w.heap.size w w')) ?_ ?_
          · skip
            rintro ⟨v124, v127, v130, v133, v136, v139⟩ w21 ⟨hS_, h0_, h1_, h2_, h3_, h4_, h5_⟩
            have n0_ : Aside0 (Kd.R (Kd.int .i64) 3 w21 w.heap.size (fun k_ => some k_ ≠ (v133 : Value).ownBlock ∧ some k_ ≠ (v139 : Value).ownBlock) v130 y129) := ⟨h0_⟩; have n1_ : Aside0 (Kd.R (Kd.int .i64) 3 w21 w.heap.size (fun k_ => some k_ ≠ (v130 : Value).ownBlock ∧ some k_ ≠ (v139 : Value).ownBlock) v133 y132) := ⟨h1_⟩; have n2_ : Aside0 (Kd.R (Kd.int .i64) 3 w21 w.heap.size (fun k_ => some k_ ≠ (v130 : Value).ownBlock ∧ some k_ ≠ (v133 : Value).ownBlock) v139 y138) := ⟨h2_⟩; have n3_ : Aside0 (w21.heap[gb121]? = some (.cells #[.slice A0_0 l0_0.length c0_0, .int .i64 a0_1] 24 (0, 0))) := ⟨h3_⟩; have n4_ : Aside0 (w21.heap[gb122]? = some (.cells #[.slice A1_0 l1_0.length c1_0, .int .i64 a1_1] 24 (0, 0))) := ⟨h4_⟩; have n5_ : Aside0 (Below w.heap.size w w21) := ⟨h5_⟩; clear BK121; clear BK122; clear HB; clear h0_ h1_ h2_ h3_ h4_ h5_; have HO131 := n0_; have HO134 := n1_; have HO140 := n2_; have BK121 := n3_; have BK122 := n4_; have HB := n5_; clear n0_ n1_ n2_ n3_ n4_ n5_
            have hHeld : w21.cell? ⟨gb121, 0, none⟩ = some (.slice A0_0 l0_0.length c0_0) ∧ w21.cell? ⟨gb121, 1, none⟩ = some (.int .i64 a0_1) ∧ w21.cell? ⟨gb122, 0, none⟩ = some (.slice A1_0 l1_0.length c1_0) ∧ w21.cell? ⟨gb122, 1, none⟩ = some (.int .i64 a1_1) := hS_
            refine norm_ (a' := ?_) ?_ ?_
            rotate_left
            · simp only [putAll, Act.put, List.setIfInBounds_toArray, List.set_cons_zero, List.set_cons_succ]
              rfl
            refine one_ (i := 14) (N := some 19) #[true, true, true, true, true, true, true, true, true, true, true, true, true, true, true, false, false, false] rfl rfl (one_of HT_.out (by kernel_rfl)) (by decide) (fun K hK => ?_)
            refine Kd.R_lit_step (Kd.int .i64) _ 3 ?hg (N := 19) ?hd (xs := ([a1_1] : List Int)) (inner := [.int .i64 a1_1]) (ok := fun _ => True) (okp := fun _ => True) ?hr ?hp (fun _ hk => hk) trivial (Below.refl _ _) (Nat.le_refl _) (by simp) ?_; (case hd => rfl); (case hg => rfl); (case hr => first | (go_simp; done) | (go_simp; rfl)); (case hp => exact (Reps.one (show Kd.M (Kd.int .i64) _ _ _ a1_1 [.int .i64 a1_1] from rfl) (Reps.none _ _)))
            intro v142 w22 ho23 hb hg_ hnew_
            clear hg_ hnew_
            (first | rw [← Ny141.out] at ho23 | (simp only [Int.reduceToNat] at ho23; rw [← Ny141.out] at ho23))
            have n0_ := mk (Kd.R_elder' HO131.out (Kd.R_base ho23) hb); have n1_ := mk (Kd.R_elder' HO134.out (Kd.R_base ho23) hb); have n2_ := mk (Kd.R_elder' HO140.out (Kd.R_base ho23) hb); have HO143 := mk (Kd.R_lower (Kd.R_new' (Kd.R_new' (Kd.R_new' ho23 (Kd.R_lt HO131.out)) (Kd.R_lt HO134.out)) (Kd.R_lt HO140.out)) (below_size HB.out)); have n4_ := mk (blk_below BK121.out hb); have n5_ := mk (blk_below BK122.out hb); have n6_ := mk (below_step HB.out hb); replace HO131 := n0_; replace HO134 := n1_; replace HO140 := n2_; replace BK121 := n4_; replace BK122 := n5_; replace HB := n6_; clear n0_ n1_ n2_ n4_ n5_ n6_; clear hb ho23
            refine hK.out _ _ ⟨(blk_cell BK121.out 0).trans rfl, (blk_cell BK121.out 1).trans rfl, (blk_cell BK122.out 0).trans rfl, (blk_cell BK122.out 1).trans rfl⟩ (fun hHeld => ?_)
            clear hK K
            refine norm_ (a' := ?_) ?_ ?_
            rotate_left
            · show Act.put _ (some 19) _ = _
              simp only [Act.put, List.setIfInBounds_toArray, List.set_cons_zero, List.set_cons_succ, i64_w, i32_w]
              rfl
            exact norm_ (by first | (simp only [putAll, Act.put, List.setIfInBounds_toArray, List.set_cons_zero, List.set_cons_succ]; done) | (simp only [putAll, Act.put, List.setIfInBounds_toArray, List.set_cons_zero, List.set_cons_succ]; rfl)) (hJ0_3_6_7_8_11_14 (v124, v127, v130, v133, v136, v139, v142) _ ⟨hHeld, (by exact Kd.R_mono HO131.out (fun _ hk => ⟨hk.1.1, ⟨hk.1.2, hk.2⟩⟩)), (by exact Kd.R_mono HO134.out (fun _ hk => ⟨hk.1.1, ⟨hk.1.2, hk.2⟩⟩)), (by exact Kd.R_mono HO140.out (fun _ hk => ⟨hk.1.1, ⟨hk.1.2, hk.2⟩⟩)), (by exact Kd.R_mono HO143.out (fun _ hk => ⟨hk.1.1.2, ⟨hk.1.2, hk.2⟩⟩)), BK121.out, BK122.out, HB.out⟩)
          intro hJ0_3_6_7_8_11
          refine join_ (σ := Value × Value × Value × Value × Value × Value) 4 #[true, true, true, true, true, true, true, true, true, true, true, false, true, true, true, false, false, false] (fun s_ => [(5, s_.1), (8, s_.2.1), (11, s_.2.2.1), (12, s_.2.2.2.1), (13, s_.2.2.2.2.1), (19, s_.2.2.2.2.2)]) (fun s_ w' => (w'.cell? ⟨gb121, 0, none⟩ = some (.slice A0_0 l0_0.length c0_0) ∧ w'.cell? ⟨gb121, 1, none⟩ = some (.int .i64 a0_1) ∧ w'.cell? ⟨gb122, 0, none⟩ = some (.slice A1_0 l1_0.length c1_0) ∧ w'.cell? ⟨gb122, 1, none⟩ = some (.int .i64 a1_1)) ∧ (Kd.R (Kd.int .i64) 3 w' w.heap.size (fun k_ => some k_ ≠ (s_.2.2.2.1 : Value).ownBlock ∧ some k_ ≠ (s_.2.2.2.2.1 : Value).ownBlock ∧ some k_ ≠ (s_.2.2.2.2.2 : Value).ownBlock) s_.2.2.1 y129) ∧ (Kd.R (Kd.int .i64) 3 w' w.heap.size (fun k_ => some k_ ≠ (s_.2.2.1 : Value).ownBlock ∧ some k_ ≠ (s_.2.2.2.2.1 : Value).ownBlock ∧ some k_ ≠ (s_.2.2.2.2.2 : Value).ownBlock) s_.2.2.2.1 y132) ∧ (Kd.R (Kd.int .i64) 3 w' w.heap.size (fun k_ => some k_ ≠ (s_.2.2.1 : Value).ownBlock ∧ some k_ ≠ (s_.2.2.2.1 : Value).ownBlock ∧ some k_ ≠ (s_.2.2.2.2.2 : Value).ownBlock) s_.2.2.2.2.1 y135) ∧ (Kd.R (Kd.int .i64) 3 w' w.heap.size (fun k_ => some k_ ≠ (s_.2.2.1 : Value).ownBlock ∧ some k_ ≠ (s_.2.2.2.1 : Value).ownBlock ∧ some k_ ≠ (s_.2.2.2.2.1 : Value).ownBlock) s_.2.2.2.2.2 y141) ∧ (w'.heap[gb121]? = some (.cells #[.slice A0_0 l0_0.length c0_0, .int .i64 a0_1] 24 (0, 0))) ∧ (w'.heap[gb122]? = some (.cells #[.slice A1_0 l1_0.length c1_0, .int .i64 a1_1] 24 (0, 0))) ∧ (Below w.heap.size w w')) ?_ ?_
          · skip
            rintro ⟨v124, v127, v130, v133, v136, v142⟩ w22 ⟨hS_, h0_, h1_, h2_, h3_, h4_, h5_, h6_⟩
            have n0_ : Aside0 (Kd.R (Kd.int .i64) 3 w22 w.heap.size (fun k_ => some k_ ≠ (v133 : Value).ownBlock ∧ some k_ ≠ (v136 : Value).ownBlock ∧ some k_ ≠ (v142 : Value).ownBlock) v130 y129) := ⟨h0_⟩; have n1_ : Aside0 (Kd.R (Kd.int .i64) 3 w22 w.heap.size (fun k_ => some k_ ≠ (v130 : Value).ownBlock ∧ some k_ ≠ (v136 : Value).ownBlock ∧ some k_ ≠ (v142 : Value).ownBlock) v133 y132) := ⟨h1_⟩; have n2_ : Aside0 (Kd.R (Kd.int .i64) 3 w22 w.heap.size (fun k_ => some k_ ≠ (v130 : Value).ownBlock ∧ some k_ ≠ (v133 : Value).ownBlock ∧ some k_ ≠ (v142 : Value).ownBlock) v136 y135) := ⟨h2_⟩; have n3_ : Aside0 (Kd.R (Kd.int .i64) 3 w22 w.heap.size (fun k_ => some k_ ≠ (v130 : Value).ownBlock ∧ some k_ ≠ (v133 : Value).ownBlock ∧ some k_ ≠ (v136 : Value).ownBlock) v142 y141) := ⟨h3_⟩; have n4_ : Aside0 (w22.heap[gb121]? = some (.cells #[.slice A0_0 l0_0.length c0_0, .int .i64 a0_1] 24 (0, 0))) := ⟨h4_⟩; have n5_ : Aside0 (w22.heap[gb122]? = some (.cells #[.slice A1_0 l1_0.length c1_0, .int .i64 a1_1] 24 (0, 0))) := ⟨h5_⟩; have n6_ : Aside0 (Below w.heap.size w w22) := ⟨h6_⟩; clear BK121; clear BK122; clear HB; clear h0_ h1_ h2_ h3_ h4_ h5_ h6_; have HO131 := n0_; have HO134 := n1_; have HO137 := n2_; have HO143 := n3_; have BK121 := n4_; have BK122 := n5_; have HB := n6_; clear n0_ n1_ n2_ n3_ n4_ n5_ n6_
            have hHeld : w22.cell? ⟨gb121, 0, none⟩ = some (.slice A0_0 l0_0.length c0_0) ∧ w22.cell? ⟨gb121, 1, none⟩ = some (.int .i64 a0_1) ∧ w22.cell? ⟨gb122, 0, none⟩ = some (.slice A1_0 l1_0.length c1_0) ∧ w22.cell? ⟨gb122, 1, none⟩ = some (.int .i64 a1_1) := hS_
            refine norm_ (a' := ?_) ?_ ?_
            rotate_left
            · simp only [putAll, Act.put, List.setIfInBounds_toArray, List.set_cons_zero, List.set_cons_succ]
              rfl
            refine one_ (i := 11) (N := some 16) #[true, true, true, true, true, true, true, true, true, true, true, true, true, true, true, false, false, false] rfl rfl (one_of HT_.out (by kernel_rfl)) (by decide) (fun K hK => ?_)
            refine Kd.R_append_rows_step (Kd.int .i64) (w0 := w) w.heap.size (by rfl) (.tmp 13) (.tmp 15) 22 3 (.int .i64 0) 8 rfl Try.underlying22 info3 rfl (by decide) (by omega) v136 y135 l1_0 _ _ _ (fun k_ => some k_ ≠ (v130 : Value).ownBlock ∧ some k_ ≠ (v133 : Value).ownBlock ∧ some k_ ≠ (v142 : Value).ownBlock) (fun _ => False) rfl rfl ?aO ?aR (fun _ _ h => h) (fun _ h => h.elim) ?aF ?aB ?aS ?aL ?_
            (case aR => repeat (first | exact (Kd.C_below HR1_0.out HB.out) | (with_reducible refine Kd.C_alloc ?_ _) | (with_reducible refine Kd.C_drewN ?_ _) | (with_reducible refine Kd.C_drew ?_)))
            (case aB => exact HB.out)
            (case aF => exact (fun k_ hk => ⟨Kd.fresh' (Kd.R_lt HO131.out) k_ hk, Kd.fresh' (Kd.R_lt HO134.out) k_ hk, Kd.fresh' (Kd.R_lt HO143.out) k_ hk⟩))
            (case aO => exact HO137.out)
            (case aS => exact (below_size HB.out))
            (case aL => have := LMc5.out; omega)
            intro v139 w23 ho hb hg hat
            rw [← Ny138.out] at ho
            have n0_ := mk (blk_grown (g := gb121) (o := .cells #[.slice A0_0 l0_0.length c0_0, .int .i64 a0_1] 24 (0, 0)) BK121.out hg (Kd.R_ne HO137.out BK121.out (by decide))); have n1_ := mk (blk_grown (g := gb122) (o := .cells #[.slice A1_0 l1_0.length c1_0, .int .i64 a1_1] 24 (0, 0)) BK122.out hg (Kd.R_ne HO137.out BK122.out (by decide))); have n2_ := mk (Kd.R_after (ok := (fun k_ => some k_ ≠ (v133 : Value).ownBlock ∧ some k_ ≠ (v142 : Value).ownBlock)) (by exact Kd.R_mono HO131.out (fun _ hk => ⟨⟨hk.1, hk.2.2⟩, hk.2.1⟩)) hg hat); have n3_ := mk (Kd.R_after (ok := (fun k_ => some k_ ≠ (v130 : Value).ownBlock ∧ some k_ ≠ (v142 : Value).ownBlock)) (by exact Kd.R_mono HO134.out (fun _ hk => ⟨⟨hk.1, hk.2.2⟩, hk.2.1⟩)) hg hat); have n4_ := mk (Kd.R_after (ok := (fun k_ => some k_ ≠ (v130 : Value).ownBlock ∧ some k_ ≠ (v133 : Value).ownBlock)) (by exact Kd.R_mono HO143.out (fun _ hk => ⟨⟨hk.1, hk.2.1⟩, hk.2.2⟩)) hg hat); have n5_ := mk (hb); have HO140 := mk (ho); clear HO137; replace BK121 := n0_; replace BK122 := n1_; replace HO131 := n2_; replace HO134 := n3_; replace HO143 := n4_; replace HB := n5_; clear n0_ n1_ n2_ n3_ n4_ n5_; clear ho hb hg hat
            refine hK.out _ _ ⟨(blk_cell BK121.out 0).trans rfl, (blk_cell BK121.out 1).trans rfl, (blk_cell BK122.out 0).trans rfl, (blk_cell BK122.out 1).trans rfl⟩ (fun hHeld => ?_)
            clear hK K
            refine norm_ (a' := ?_) ?_ ?_
            rotate_left
            · show Act.put _ (some 16) _ = _
              simp only [Act.put, List.setIfInBounds_toArray, List.set_cons_zero, List.set_cons_succ, i64_w, i32_w]
              rfl
            exact norm_ (by first | (simp only [putAll, Act.put, List.setIfInBounds_toArray, List.set_cons_zero, List.set_cons_succ]; done) | (simp only [putAll, Act.put, List.setIfInBounds_toArray, List.set_cons_zero, List.set_cons_succ]; rfl)) (hJ0_3_6_7_8_11_14 (v124, v127, v130, v133, v136, v139, v142) _ ⟨hHeld, (by exact Kd.R_mono HO131.out (fun _ hk => ⟨hk.1.1, ⟨hk.2, hk.1.2⟩⟩)), (by exact Kd.R_mono HO134.out (fun _ hk => ⟨hk.1.1, ⟨hk.2, hk.1.2⟩⟩)), HO140.out, (by exact Kd.R_mono HO143.out (fun _ hk => ⟨hk.1.1, ⟨hk.1.2, hk.2⟩⟩)), BK121.out, BK122.out, HB.out⟩)
          intro hJ0_3_6_7_8_14
          refine join_ (σ := Value × Value × Value × Value × Value) 5 #[true, true, true, true, true, true, true, true, true, true, true, false, true, true, false, false, false, false] (fun s_ => [(5, s_.1), (8, s_.2.1), (11, s_.2.2.1), (12, s_.2.2.2.1), (13, s_.2.2.2.2)]) (fun s_ w' => (w'.cell? ⟨gb121, 0, none⟩ = some (.slice A0_0 l0_0.length c0_0) ∧ w'.cell? ⟨gb121, 1, none⟩ = some (.int .i64 a0_1) ∧ w'.cell? ⟨gb122, 0, none⟩ = some (.slice A1_0 l1_0.length c1_0) ∧ w'.cell? ⟨gb122, 1, none⟩ = some (.int .i64 a1_1)) ∧ (Kd.R (Kd.int .i64) 3 w' w.heap.size (fun k_ => some k_ ≠ (s_.2.2.2.1 : Value).ownBlock ∧ some k_ ≠ (s_.2.2.2.2 : Value).ownBlock) s_.2.2.1 y129) ∧ (Kd.R (Kd.int .i64) 3 w' w.heap.size (fun k_ => some k_ ≠ (s_.2.2.1 : Value).ownBlock ∧ some k_ ≠ (s_.2.2.2.2 : Value).ownBlock) s_.2.2.2.1 y132) ∧ (Kd.R (Kd.int .i64) 3 w' w.heap.size (fun k_ => some k_ ≠ (s_.2.2.1 : Value).ownBlock ∧ some k_ ≠ (s_.2.2.2.1 : Value).ownBlock) s_.2.2.2.2 y135) ∧ (w'.heap[gb121]? = some (.cells #[.slice A0_0 l0_0.length c0_0, .int .i64 a0_1] 24 (0, 0))) ∧ (w'.heap[gb122]? = some (.cells #[.slice A1_0 l1_0.length c1_0, .int .i64 a1_1] 24 (0, 0))) ∧ (Below w.heap.size w w')) ?_ ?_
          · skip
            rintro ⟨v124, v127, v130, v133, v136⟩ w20 ⟨hS_, h0_, h1_, h2_, h3_, h4_, h5_⟩
            have n0_ : Aside0 (Kd.R (Kd.int .i64) 3 w20 w.heap.size (fun k_ => some k_ ≠ (v133 : Value).ownBlock ∧ some k_ ≠ (v136 : Value).ownBlock) v130 y129) := ⟨h0_⟩; have n1_ : Aside0 (Kd.R (Kd.int .i64) 3 w20 w.heap.size (fun k_ => some k_ ≠ (v130 : Value).ownBlock ∧ some k_ ≠ (v136 : Value).ownBlock) v133 y132) := ⟨h1_⟩; have n2_ : Aside0 (Kd.R (Kd.int .i64) 3 w20 w.heap.size (fun k_ => some k_ ≠ (v130 : Value).ownBlock ∧ some k_ ≠ (v133 : Value).ownBlock) v136 y135) := ⟨h2_⟩; have n3_ : Aside0 (w20.heap[gb121]? = some (.cells #[.slice A0_0 l0_0.length c0_0, .int .i64 a0_1] 24 (0, 0))) := ⟨h3_⟩; have n4_ : Aside0 (w20.heap[gb122]? = some (.cells #[.slice A1_0 l1_0.length c1_0, .int .i64 a1_1] 24 (0, 0))) := ⟨h4_⟩; have n5_ : Aside0 (Below w.heap.size w w20) := ⟨h5_⟩; clear BK121; clear BK122; clear HB; clear h0_ h1_ h2_ h3_ h4_ h5_; have HO131 := n0_; have HO134 := n1_; have HO137 := n2_; have BK121 := n3_; have BK122 := n4_; have HB := n5_; clear n0_ n1_ n2_ n3_ n4_ n5_
            have hHeld : w20.cell? ⟨gb121, 0, none⟩ = some (.slice A0_0 l0_0.length c0_0) ∧ w20.cell? ⟨gb121, 1, none⟩ = some (.int .i64 a0_1) ∧ w20.cell? ⟨gb122, 0, none⟩ = some (.slice A1_0 l1_0.length c1_0) ∧ w20.cell? ⟨gb122, 1, none⟩ = some (.int .i64 a1_1) := hS_
            refine norm_ (a' := ?_) ?_ ?_
            rotate_left
            · simp only [putAll, Act.put, List.setIfInBounds_toArray, List.set_cons_zero, List.set_cons_succ]
              rfl
            refine two_ (i := 11) (j := 14) (Ni := some 16) (Nj := some 19) #[true, true, true, true, true, true, true, true, true, true, true, true, true, true, false, false, false, false] #[true, true, true, true, true, true, true, true, true, true, true, false, true, true, true, false, false, false] rfl rfl rfl rfl (two_of HT_.out (by kernel_rfl)) (by decide) (by decide) (fun K hK => ?_) (fun K hK => ?_)
            · skip
              refine Kd.R_append_rows_step (Kd.int .i64) (w0 := w) w.heap.size (by rfl) (.tmp 13) (.tmp 15) 22 3 (.int .i64 0) 8 rfl Try.underlying22 info3 rfl (by decide) (by omega) v136 y135 l1_0 _ _ _ (fun k_ => some k_ ≠ (v130 : Value).ownBlock ∧ some k_ ≠ (v133 : Value).ownBlock) (fun _ => False) rfl rfl ?aO ?aR (fun _ _ h => h) (fun _ h => h.elim) ?aF ?aB ?aS ?aL ?_
              (case aR => repeat (first | exact (Kd.C_below HR1_0.out HB.out) | (with_reducible refine Kd.C_alloc ?_ _) | (with_reducible refine Kd.C_drewN ?_ _) | (with_reducible refine Kd.C_drew ?_)))
              (case aB => exact HB.out)
              (case aF => exact (fun k_ hk => ⟨Kd.fresh' (Kd.R_lt HO131.out) k_ hk, Kd.fresh' (Kd.R_lt HO134.out) k_ hk⟩))
              (case aO => exact HO137.out)
              (case aS => exact (below_size HB.out))
              (case aL => have := LMc5.out; omega)
              intro v139 w21 ho hb hg hat
              rw [← Ny138.out] at ho
              have n0_ := mk (blk_grown (g := gb121) (o := .cells #[.slice A0_0 l0_0.length c0_0, .int .i64 a0_1] 24 (0, 0)) BK121.out hg (Kd.R_ne HO137.out BK121.out (by decide))); have n1_ := mk (blk_grown (g := gb122) (o := .cells #[.slice A1_0 l1_0.length c1_0, .int .i64 a1_1] 24 (0, 0)) BK122.out hg (Kd.R_ne HO137.out BK122.out (by decide))); have n2_ := mk (Kd.R_after (ok := (fun k_ => some k_ ≠ (v133 : Value).ownBlock)) HO131.out hg hat); have n3_ := mk (Kd.R_after (ok := (fun k_ => some k_ ≠ (v130 : Value).ownBlock)) HO134.out hg hat); have n4_ := mk (hb); have HO140 := mk (ho); clear HO137; replace BK121 := n0_; replace BK122 := n1_; replace HO131 := n2_; replace HO134 := n3_; replace HB := n4_; clear n0_ n1_ n2_ n3_ n4_; clear ho hb hg hat
              refine hK.out _ _ ⟨(blk_cell BK121.out 0).trans rfl, (blk_cell BK121.out 1).trans rfl, (blk_cell BK122.out 0).trans rfl, (blk_cell BK122.out 1).trans rfl⟩ (fun hHeld => ?_)
              clear hK K
              refine norm_ (a' := ?_) ?_ ?_
              rotate_left
              · show Act.put _ (some 16) _ = _
                simp only [Act.put, List.setIfInBounds_toArray, List.set_cons_zero, List.set_cons_succ, i64_w, i32_w]
                rfl
              exact norm_ (by first | (simp only [putAll, Act.put, List.setIfInBounds_toArray, List.set_cons_zero, List.set_cons_succ]; done) | (simp only [putAll, Act.put, List.setIfInBounds_toArray, List.set_cons_zero, List.set_cons_succ]; rfl)) (hJ0_3_6_7_8_11 (v124, v127, v130, v133, v136, v139) _ ⟨hHeld, HO131.out, HO134.out, HO140.out, BK121.out, BK122.out, HB.out⟩)
            · skip
              refine Kd.R_lit_step (Kd.int .i64) _ 3 ?hg (N := 19) ?hd (xs := ([a1_1] : List Int)) (inner := [.int .i64 a1_1]) (ok := fun _ => True) (okp := fun _ => True) ?hr ?hp (fun _ hk => hk) trivial (Below.refl _ _) (Nat.le_refl _) (by simp) ?_; (case hd => rfl); (case hg => rfl); (case hr => first | (go_simp; done) | (go_simp; rfl)); (case hp => exact (Reps.one (show Kd.M (Kd.int .i64) _ _ _ a1_1 [.int .i64 a1_1] from rfl) (Reps.none _ _)))
              intro v142 w21 ho22 hb hg_ hnew_
              clear hg_ hnew_
              (first | rw [← Ny141.out] at ho22 | (simp only [Int.reduceToNat] at ho22; rw [← Ny141.out] at ho22))
              have n0_ := mk (Kd.R_elder' HO131.out (Kd.R_base ho22) hb); have n1_ := mk (Kd.R_elder' HO134.out (Kd.R_base ho22) hb); have n2_ := mk (Kd.R_elder' HO137.out (Kd.R_base ho22) hb); have HO143 := mk (Kd.R_lower (Kd.R_new' (Kd.R_new' (Kd.R_new' ho22 (Kd.R_lt HO131.out)) (Kd.R_lt HO134.out)) (Kd.R_lt HO137.out)) (below_size HB.out)); have n4_ := mk (blk_below BK121.out hb); have n5_ := mk (blk_below BK122.out hb); have n6_ := mk (below_step HB.out hb); replace HO131 := n0_; replace HO134 := n1_; replace HO137 := n2_; replace BK121 := n4_; replace BK122 := n5_; replace HB := n6_; clear n0_ n1_ n2_ n4_ n5_ n6_; clear hb ho22
              refine hK.out _ _ ⟨(blk_cell BK121.out 0).trans rfl, (blk_cell BK121.out 1).trans rfl, (blk_cell BK122.out 0).trans rfl, (blk_cell BK122.out 1).trans rfl⟩ (fun hHeld => ?_)
              clear hK K
              refine norm_ (a' := ?_) ?_ ?_
              rotate_left
              · show Act.put _ (some 19) _ = _
                simp only [Act.put, List.setIfInBounds_toArray, List.set_cons_zero, List.set_cons_succ, i64_w, i32_w]
                rfl
              exact norm_ (by first | (simp only [putAll, Act.put, List.setIfInBounds_toArray, List.set_cons_zero, List.set_cons_succ]; done) | (simp only [putAll, Act.put, List.setIfInBounds_toArray, List.set_cons_zero, List.set_cons_succ]; rfl)) (hJ0_3_6_7_8_14 (v124, v127, v130, v133, v136, v142) _ ⟨hHeld, (by exact Kd.R_mono HO131.out (fun _ hk => ⟨hk.1.1, ⟨hk.1.2, hk.2⟩⟩)), (by exact Kd.R_mono HO134.out (fun _ hk => ⟨hk.1.1, ⟨hk.1.2, hk.2⟩⟩)), (by exact Kd.R_mono HO137.out (fun _ hk => ⟨hk.1.1, ⟨hk.1.2, hk.2⟩⟩)), (by exact Kd.R_mono HO143.out (fun _ hk => ⟨hk.1.1.2, ⟨hk.1.2, hk.2⟩⟩)), BK121.out, BK122.out, HB.out⟩)
          intro hJ0_3_6_7_8
          refine join_ (σ := Value × Value × Value × Value × Value) 5 #[true, true, true, true, true, true, true, true, false, true, true, false, true, true, true, false, false, false] (fun s_ => [(5, s_.1), (8, s_.2.1), (11, s_.2.2.1), (12, s_.2.2.2.1), (19, s_.2.2.2.2)]) (fun s_ w' => (w'.cell? ⟨gb121, 0, none⟩ = some (.slice A0_0 l0_0.length c0_0) ∧ w'.cell? ⟨gb121, 1, none⟩ = some (.int .i64 a0_1) ∧ w'.cell? ⟨gb122, 0, none⟩ = some (.slice A1_0 l1_0.length c1_0) ∧ w'.cell? ⟨gb122, 1, none⟩ = some (.int .i64 a1_1)) ∧ (Kd.R (Kd.int .i64) 3 w' w.heap.size (fun k_ => some k_ ≠ (s_.2.2.2.1 : Value).ownBlock ∧ some k_ ≠ (s_.2.2.2.2 : Value).ownBlock) s_.2.2.1 y129) ∧ (Kd.R (Kd.int .i64) 3 w' w.heap.size (fun k_ => some k_ ≠ (s_.2.2.1 : Value).ownBlock ∧ some k_ ≠ (s_.2.2.2.2 : Value).ownBlock) s_.2.2.2.1 y132) ∧ (Kd.R (Kd.int .i64) 3 w' w.heap.size (fun k_ => some k_ ≠ (s_.2.2.1 : Value).ownBlock ∧ some k_ ≠ (s_.2.2.2.1 : Value).ownBlock) s_.2.2.2.2 y141) ∧ (w'.heap[gb121]? = some (.cells #[.slice A0_0 l0_0.length c0_0, .int .i64 a0_1] 24 (0, 0))) ∧ (w'.heap[gb122]? = some (.cells #[.slice A1_0 l1_0.length c1_0, .int .i64 a1_1] 24 (0, 0))) ∧ (Below w.heap.size w w')) ?_ ?_
          · skip
            rintro ⟨v124, v127, v130, v133, v142⟩ w20 ⟨hS_, h0_, h1_, h2_, h3_, h4_, h5_⟩
            have n0_ : Aside0 (Kd.R (Kd.int .i64) 3 w20 w.heap.size (fun k_ => some k_ ≠ (v133 : Value).ownBlock ∧ some k_ ≠ (v142 : Value).ownBlock) v130 y129) := ⟨h0_⟩; have n1_ : Aside0 (Kd.R (Kd.int .i64) 3 w20 w.heap.size (fun k_ => some k_ ≠ (v130 : Value).ownBlock ∧ some k_ ≠ (v142 : Value).ownBlock) v133 y132) := ⟨h1_⟩; have n2_ : Aside0 (Kd.R (Kd.int .i64) 3 w20 w.heap.size (fun k_ => some k_ ≠ (v130 : Value).ownBlock ∧ some k_ ≠ (v133 : Value).ownBlock) v142 y141) := ⟨h2_⟩; have n3_ : Aside0 (w20.heap[gb121]? = some (.cells #[.slice A0_0 l0_0.length c0_0, .int .i64 a0_1] 24 (0, 0))) := ⟨h3_⟩; have n4_ : Aside0 (w20.heap[gb122]? = some (.cells #[.slice A1_0 l1_0.length c1_0, .int .i64 a1_1] 24 (0, 0))) := ⟨h4_⟩; have n5_ : Aside0 (Below w.heap.size w w20) := ⟨h5_⟩; clear BK121; clear BK122; clear HB; clear h0_ h1_ h2_ h3_ h4_ h5_; have HO131 := n0_; have HO134 := n1_; have HO143 := n2_; have BK121 := n3_; have BK122 := n4_; have HB := n5_; clear n0_ n1_ n2_ n3_ n4_ n5_
            have hHeld : w20.cell? ⟨gb121, 0, none⟩ = some (.slice A0_0 l0_0.length c0_0) ∧ w20.cell? ⟨gb121, 1, none⟩ = some (.int .i64 a0_1) ∧ w20.cell? ⟨gb122, 0, none⟩ = some (.slice A1_0 l1_0.length c1_0) ∧ w20.cell? ⟨gb122, 1, none⟩ = some (.int .i64 a1_1) := hS_
            refine norm_ (a' := ?_) ?_ ?_
            rotate_left
            · simp only [putAll, Act.put, List.setIfInBounds_toArray, List.set_cons_zero, List.set_cons_succ]
              rfl
            refine one_ (i := 8) (N := some 13) #[true, true, true, true, true, true, true, true, true, true, true, false, true, true, true, false, false, false] rfl rfl (one_of HT_.out (by kernel_rfl)) (by decide) (fun K hK => ?_)
            refine Kd.R_lit_step (Kd.int .i64) _ 3 ?hg (N := 13) ?hd (xs := ([] : List Int)) (inner := []) (ok := fun _ => True) (okp := fun _ => True) ?hr ?hp (fun _ hk => hk) trivial (Below.refl _ _) (Nat.le_refl _) (by simp) ?_; (case hd => rfl); (case hg => rfl); (case hr => first | (go_simp; done) | (go_simp; rfl)); (case hp => exact (Reps.none _ _))
            intro v136 w21 ho22 hb hg_ hnew_
            clear hg_ hnew_
            (first | rw [← Ny135.out] at ho22 | (simp only [Int.reduceToNat] at ho22; rw [← Ny135.out] at ho22))
            have n0_ := mk (Kd.R_elder' HO131.out (Kd.R_base ho22) hb); have n1_ := mk (Kd.R_elder' HO134.out (Kd.R_base ho22) hb); have n2_ := mk (Kd.R_elder' HO143.out (Kd.R_base ho22) hb); have HO137 := mk (Kd.R_lower (Kd.R_new' (Kd.R_new' (Kd.R_new' ho22 (Kd.R_lt HO131.out)) (Kd.R_lt HO134.out)) (Kd.R_lt HO143.out)) (below_size HB.out)); have n4_ := mk (blk_below BK121.out hb); have n5_ := mk (blk_below BK122.out hb); have n6_ := mk (below_step HB.out hb); replace HO131 := n0_; replace HO134 := n1_; replace HO143 := n2_; replace BK121 := n4_; replace BK122 := n5_; replace HB := n6_; clear n0_ n1_ n2_ n4_ n5_ n6_; clear hb ho22
            refine hK.out _ _ ⟨(blk_cell BK121.out 0).trans rfl, (blk_cell BK121.out 1).trans rfl, (blk_cell BK122.out 0).trans rfl, (blk_cell BK122.out 1).trans rfl⟩ (fun hHeld => ?_)
            clear hK K
            refine norm_ (a' := ?_) ?_ ?_
            rotate_left
            · show Act.put _ (some 13) _ = _
              simp only [Act.put, List.setIfInBounds_toArray, List.set_cons_zero, List.set_cons_succ, i64_w, i32_w]
              rfl
            exact norm_ (by first | (simp only [putAll, Act.put, List.setIfInBounds_toArray, List.set_cons_zero, List.set_cons_succ]; done) | (simp only [putAll, Act.put, List.setIfInBounds_toArray, List.set_cons_zero, List.set_cons_succ]; rfl)) (hJ0_3_6_7_8_14 (v124, v127, v130, v133, v136, v142) _ ⟨hHeld, (by exact Kd.R_mono HO131.out (fun _ hk => ⟨hk.1.1, ⟨hk.2, hk.1.2⟩⟩)), (by exact Kd.R_mono HO134.out (fun _ hk => ⟨hk.1.1, ⟨hk.2, hk.1.2⟩⟩)), (by exact Kd.R_mono HO137.out (fun _ hk => ⟨hk.1.1.2, ⟨hk.1.2, hk.2⟩⟩)), (by exact Kd.R_mono HO143.out (fun _ hk => ⟨hk.1.1, ⟨hk.1.2, hk.2⟩⟩)), BK121.out, BK122.out, HB.out⟩)
          intro hJ0_3_6_7_14
          refine join_ (σ := Value × Value × Value × Value × Value) 5 #[true, true, true, true, true, true, true, false, true, true, true, false, true, true, true, false, false, false] (fun s_ => [(5, s_.1), (8, s_.2.1), (11, s_.2.2.1), (13, s_.2.2.2.1), (19, s_.2.2.2.2)]) (fun s_ w' => (w'.cell? ⟨gb121, 0, none⟩ = some (.slice A0_0 l0_0.length c0_0) ∧ w'.cell? ⟨gb121, 1, none⟩ = some (.int .i64 a0_1) ∧ w'.cell? ⟨gb122, 0, none⟩ = some (.slice A1_0 l1_0.length c1_0) ∧ w'.cell? ⟨gb122, 1, none⟩ = some (.int .i64 a1_1)) ∧ (Kd.R (Kd.int .i64) 3 w' w.heap.size (fun k_ => some k_ ≠ (s_.2.2.1 : Value).ownBlock ∧ some k_ ≠ (s_.2.2.2.1 : Value).ownBlock ∧ some k_ ≠ (s_.2.2.2.2 : Value).ownBlock) s_.2.1 y126) ∧ (Kd.R (Kd.int .i64) 3 w' w.heap.size (fun k_ => some k_ ≠ (s_.2.1 : Value).ownBlock ∧ some k_ ≠ (s_.2.2.2.1 : Value).ownBlock ∧ some k_ ≠ (s_.2.2.2.2 : Value).ownBlock) s_.2.2.1 y129) ∧ (Kd.R (Kd.int .i64) 3 w' w.heap.size (fun k_ => some k_ ≠ (s_.2.1 : Value).ownBlock ∧ some k_ ≠ (s_.2.2.1 : Value).ownBlock ∧ some k_ ≠ (s_.2.2.2.2 : Value).ownBlock) s_.2.2.2.1 y135) ∧ (Kd.R (Kd.int .i64) 3 w' w.heap.size (fun k_ => some k_ ≠ (s_.2.1 : Value).ownBlock ∧ some k_ ≠ (s_.2.2.1 : Value).ownBlock ∧ some k_ ≠ (s_.2.2.2.1 : Value).ownBlock) s_.2.2.2.2 y141) ∧ (w'.heap[gb121]? = some (.cells #[.slice A0_0 l0_0.length c0_0, .int .i64 a0_1] 24 (0, 0))) ∧ (w'.heap[gb122]? = some (.cells #[.slice A1_0 l1_0.length c1_0, .int .i64 a1_1] 24 (0, 0))) ∧ (Below w.heap.size w w')) ?_ ?_
          · skip
            rintro ⟨v124, v127, v130, v136, v142⟩ w20 ⟨hS_, h0_, h1_, h2_, h3_, h4_, h5_, h6_⟩
            have n0_ : Aside0 (Kd.R (Kd.int .i64) 3 w20 w.heap.size (fun k_ => some k_ ≠ (v130 : Value).ownBlock ∧ some k_ ≠ (v136 : Value).ownBlock ∧ some k_ ≠ (v142 : Value).ownBlock) v127 y126) := ⟨h0_⟩; have n1_ : Aside0 (Kd.R (Kd.int .i64) 3 w20 w.heap.size (fun k_ => some k_ ≠ (v127 : Value).ownBlock ∧ some k_ ≠ (v136 : Value).ownBlock ∧ some k_ ≠ (v142 : Value).ownBlock) v130 y129) := ⟨h1_⟩; have n2_ : Aside0 (Kd.R (Kd.int .i64) 3 w20 w.heap.size (fun k_ => some k_ ≠ (v127 : Value).ownBlock ∧ some k_ ≠ (v130 : Value).ownBlock ∧ some k_ ≠ (v142 : Value).ownBlock) v136 y135) := ⟨h2_⟩; have n3_ : Aside0 (Kd.R (Kd.int .i64) 3 w20 w.heap.size (fun k_ => some k_ ≠ (v127 : Value).ownBlock ∧ some k_ ≠ (v130 : Value).ownBlock ∧ some k_ ≠ (v136 : Value).ownBlock) v142 y141) := ⟨h3_⟩; have n4_ : Aside0 (w20.heap[gb121]? = some (.cells #[.slice A0_0 l0_0.length c0_0, .int .i64 a0_1] 24 (0, 0))) := ⟨h4_⟩; have n5_ : Aside0 (w20.heap[gb122]? = some (.cells #[.slice A1_0 l1_0.length c1_0, .int .i64 a1_1] 24 (0, 0))) := ⟨h5_⟩; have n6_ : Aside0 (Below w.heap.size w w20) := ⟨h6_⟩; clear BK121; clear BK122; clear HB; clear h0_ h1_ h2_ h3_ h4_ h5_ h6_; have HO128 := n0_; have HO131 := n1_; have HO137 := n2_; have HO143 := n3_; have BK121 := n4_; have BK122 := n5_; have HB := n6_; clear n0_ n1_ n2_ n3_ n4_ n5_ n6_
            have hHeld : w20.cell? ⟨gb121, 0, none⟩ = some (.slice A0_0 l0_0.length c0_0) ∧ w20.cell? ⟨gb121, 1, none⟩ = some (.int .i64 a0_1) ∧ w20.cell? ⟨gb122, 0, none⟩ = some (.slice A1_0 l1_0.length c1_0) ∧ w20.cell? ⟨gb122, 1, none⟩ = some (.int .i64 a1_1) := hS_
            obtain ⟨Ao22, co22, eo22⟩ := Kd.R_slice HO131.out
            (first | subst eo22 | (injection eo22 with f1_ f2_ f3_; have f4_ := f1_.symm; have f5_ := f3_.symm; clear f1_ f2_ f3_; subst f4_; subst f5_))
            refine norm_ (a' := ?_) ?_ ?_
            rotate_left
            · simp only [putAll, Act.put, List.setIfInBounds_toArray, List.set_cons_zero, List.set_cons_succ]
              rfl
            refine one_ (i := 7) (N := some 12) #[true, true, true, true, true, true, true, true, true, true, true, false, true, true, true, false, false, false] rfl rfl (one_of HT_.out (by kernel_rfl)) (by decide) (fun K hK => ?_)
            refine Kd.R_append_rows_step (Kd.int .i64) (w0 := w) w.heap.size (by rfl) (.tmp 8) (.tmp 11) 22 3 (.int .i64 0) 8 rfl Try.underlying22 info3 rfl (by decide) (by omega) v127 y126 y129 _ _ _ (fun k_ => some k_ ≠ (.slice Ao22 y129.length co22 : Value).ownBlock ∧ some k_ ≠ (v136 : Value).ownBlock ∧ some k_ ≠ (v142 : Value).ownBlock) (fun _ => False) rfl rfl ?aO ?aR (fun _ _ h => h) (fun _ h => h.elim) ?aF ?aB ?aS ?aL ?_
            (case aR => repeat (first | exact (Kd.R_reads' HO131.out).2.2 | (with_reducible refine Kd.C_alloc ?_ _) | (with_reducible refine Kd.C_drewN ?_ _) | (with_reducible refine Kd.C_drew ?_)))
            (case aB => exact HB.out)
            (case aF => exact (fun k_ hk => ⟨Kd.fresh' (Kd.R_lt HO131.out) k_ hk, Kd.fresh' (Kd.R_lt HO137.out) k_ hk, Kd.fresh' (Kd.R_lt HO143.out) k_ hk⟩))
            (case aO => exact HO128.out)
            (case aS => exact (below_size HB.out))
            (case aL => have := LMc4.out; omega)
            intro v133 w21 ho hb hg hat
            rw [← Ny132.out] at ho
            have n0_ := mk (blk_grown (g := gb121) (o := .cells #[.slice A0_0 l0_0.length c0_0, .int .i64 a0_1] 24 (0, 0)) BK121.out hg (Kd.R_ne HO128.out BK121.out (by decide))); have n1_ := mk (blk_grown (g := gb122) (o := .cells #[.slice A1_0 l1_0.length c1_0, .int .i64 a1_1] 24 (0, 0)) BK122.out hg (Kd.R_ne HO128.out BK122.out (by decide))); have n2_ := mk (Kd.R_after (ok := (fun k_ => some k_ ≠ (v136 : Value).ownBlock ∧ some k_ ≠ (v142 : Value).ownBlock)) (by exact Kd.R_mono HO131.out (fun _ hk => ⟨⟨hk.2.1, hk.2.2⟩, hk.1⟩)) hg hat); have n3_ := mk (Kd.R_after (ok := (fun k_ => some k_ ≠ (.slice Ao22 y129.length co22 : Value).ownBlock ∧ some k_ ≠ (v142 : Value).ownBlock)) (by exact Kd.R_mono HO137.out (fun _ hk => ⟨⟨hk.2.1, hk.2.2⟩, hk.1⟩)) hg hat); have n4_ := mk (Kd.R_after (ok := (fun k_ => some k_ ≠ (.slice Ao22 y129.length co22 : Value).ownBlock ∧ some k_ ≠ (v136 : Value).ownBlock)) (by exact Kd.R_mono HO143.out (fun _ hk => ⟨⟨hk.2.1, hk.2.2⟩, hk.1⟩)) hg hat); have n5_ := mk (hb); have HO134 := mk (ho); clear HO128; replace BK121 := n0_; replace BK122 := n1_; replace HO131 := n2_; replace HO137 := n3_; replace HO143 := n4_; replace HB := n5_; clear n0_ n1_ n2_ n3_ n4_ n5_; clear ho hb hg hat
            refine hK.out _ _ ⟨(blk_cell BK121.out 0).trans rfl, (blk_cell BK121.out 1).trans rfl, (blk_cell BK122.out 0).trans rfl, (blk_cell BK122.out 1).trans rfl⟩ (fun hHeld => ?_)
            clear hK K
            refine norm_ (a' := ?_) ?_ ?_
            rotate_left
            · show Act.put _ (some 12) _ = _
              simp only [Act.put, List.setIfInBounds_toArray, List.set_cons_zero, List.set_cons_succ, i64_w, i32_w]
              rfl
            exact norm_ (by first | (simp only [putAll, Act.put, List.setIfInBounds_toArray, List.set_cons_zero, List.set_cons_succ]; done) | (simp only [putAll, Act.put, List.setIfInBounds_toArray, List.set_cons_zero, List.set_cons_succ]; rfl)) (hJ0_3_6_7_8_14 (v124, v127, .slice Ao22 y129.length co22, v133, v136, v142) _ ⟨hHeld, (by exact Kd.R_mono HO131.out (fun _ hk => ⟨hk.2, ⟨hk.1.1, hk.1.2⟩⟩)), HO134.out, (by exact Kd.R_mono HO137.out (fun _ hk => ⟨hk.1.1, ⟨hk.2, hk.1.2⟩⟩)), (by exact Kd.R_mono HO143.out (fun _ hk => ⟨hk.1.1, ⟨hk.2, hk.1.2⟩⟩)), BK121.out, BK122.out, HB.out⟩)
          intro hJ0_3_6_8_14
          refine join_ (σ := Value × Value × Value × Value) 6 #[true, true, true, true, true, true, true, true, false, true, true, false, true, true, false, false, false, false] (fun s_ => [(5, s_.1), (8, s_.2.1), (11, s_.2.2.1), (12, s_.2.2.2)]) (fun s_ w' => (w'.cell? ⟨gb121, 0, none⟩ = some (.slice A0_0 l0_0.length c0_0) ∧ w'.cell? ⟨gb121, 1, none⟩ = some (.int .i64 a0_1) ∧ w'.cell? ⟨gb122, 0, none⟩ = some (.slice A1_0 l1_0.length c1_0) ∧ w'.cell? ⟨gb122, 1, none⟩ = some (.int .i64 a1_1)) ∧ (Kd.R (Kd.int .i64) 3 w' w.heap.size (fun k_ => some k_ ≠ (s_.2.2.2 : Value).ownBlock) s_.2.2.1 y129) ∧ (Kd.R (Kd.int .i64) 3 w' w.heap.size (fun k_ => some k_ ≠ (s_.2.2.1 : Value).ownBlock) s_.2.2.2 y132) ∧ (w'.heap[gb121]? = some (.cells #[.slice A0_0 l0_0.length c0_0, .int .i64 a0_1] 24 (0, 0))) ∧ (w'.heap[gb122]? = some (.cells #[.slice A1_0 l1_0.length c1_0, .int .i64 a1_1] 24 (0, 0))) ∧ (Below w.heap.size w w')) ?_ ?_
          · skip
            rintro ⟨v124, v127, v130, v133⟩ w18 ⟨hS_, h0_, h1_, h2_, h3_, h4_⟩
            have n0_ : Aside0 (Kd.R (Kd.int .i64) 3 w18 w.heap.size (fun k_ => some k_ ≠ (v133 : Value).ownBlock) v130 y129) := ⟨h0_⟩; have n1_ : Aside0 (Kd.R (Kd.int .i64) 3 w18 w.heap.size (fun k_ => some k_ ≠ (v130 : Value).ownBlock) v133 y132) := ⟨h1_⟩; have n2_ : Aside0 (w18.heap[gb121]? = some (.cells #[.slice A0_0 l0_0.length c0_0, .int .i64 a0_1] 24 (0, 0))) := ⟨h2_⟩; have n3_ : Aside0 (w18.heap[gb122]? = some (.cells #[.slice A1_0 l1_0.length c1_0, .int .i64 a1_1] 24 (0, 0))) := ⟨h3_⟩; have n4_ : Aside0 (Below w.heap.size w w18) := ⟨h4_⟩; clear BK121; clear BK122; clear HB; clear h0_ h1_ h2_ h3_ h4_; have HO131 := n0_; have HO134 := n1_; have BK121 := n2_; have BK122 := n3_; have HB := n4_; clear n0_ n1_ n2_ n3_ n4_
            have hHeld : w18.cell? ⟨gb121, 0, none⟩ = some (.slice A0_0 l0_0.length c0_0) ∧ w18.cell? ⟨gb121, 1, none⟩ = some (.int .i64 a0_1) ∧ w18.cell? ⟨gb122, 0, none⟩ = some (.slice A1_0 l1_0.length c1_0) ∧ w18.cell? ⟨gb122, 1, none⟩ = some (.int .i64 a1_1) := hS_
            refine norm_ (a' := ?_) ?_ ?_
            rotate_left
            · simp only [putAll, Act.put, List.setIfInBounds_toArray, List.set_cons_zero, List.set_cons_succ]
              rfl
            refine two_ (i := 8) (j := 14) (Ni := some 13) (Nj := some 19) #[true, true, true, true, true, true, true, true, true, true, true, false, true, true, false, false, false, false] #[true, true, true, true, true, true, true, true, false, true, true, false, true, true, true, false, false, false] rfl rfl rfl rfl (two_of HT_.out (by kernel_rfl)) (by decide) (by decide) (fun K hK => ?_) (fun K hK => ?_)
            · skip
              refine Kd.R_lit_step (Kd.int .i64) _ 3 ?hg (N := 13) ?hd (xs := ([] : List Int)) (inner := []) (ok := fun _ => True) (okp := fun _ => True) ?hr ?hp (fun _ hk => hk) trivial (Below.refl _ _) (Nat.le_refl _) (by simp) ?_; (case hd => rfl); (case hg => rfl); (case hr => first | (go_simp; done) | (go_simp; rfl)); (case hp => exact (Reps.none _ _))
              intro v136 w19 ho20 hb hg_ hnew_
              clear hg_ hnew_
              (first | rw [← Ny135.out] at ho20 | (simp only [Int.reduceToNat] at ho20; rw [← Ny135.out] at ho20))
              have n0_ := mk (Kd.R_elder' HO131.out (Kd.R_base ho20) hb); have n1_ := mk (Kd.R_elder' HO134.out (Kd.R_base ho20) hb); have HO137 := mk (Kd.R_lower (Kd.R_new' (Kd.R_new' ho20 (Kd.R_lt HO131.out)) (Kd.R_lt HO134.out)) (below_size HB.out)); have n3_ := mk (blk_below BK121.out hb); have n4_ := mk (blk_below BK122.out hb); have n5_ := mk (below_step HB.out hb); replace HO131 := n0_; replace HO134 := n1_; replace BK121 := n3_; replace BK122 := n4_; replace HB := n5_; clear n0_ n1_ n3_ n4_ n5_; clear hb ho20
              refine hK.out _ _ ⟨(blk_cell BK121.out 0).trans rfl, (blk_cell BK121.out 1).trans rfl, (blk_cell BK122.out 0).trans rfl, (blk_cell BK122.out 1).trans rfl⟩ (fun hHeld => ?_)
              clear hK K
              refine norm_ (a' := ?_) ?_ ?_
              rotate_left
              · show Act.put _ (some 13) _ = _
                simp only [Act.put, List.setIfInBounds_toArray, List.set_cons_zero, List.set_cons_succ, i64_w, i32_w]
                rfl
              exact norm_ (by first | (simp only [putAll, Act.put, List.setIfInBounds_toArray, List.set_cons_zero, List.set_cons_succ]; done) | (simp only [putAll, Act.put, List.setIfInBounds_toArray, List.set_cons_zero, List.set_cons_succ]; rfl)) (hJ0_3_6_7_8 (v124, v127, v130, v133, v136) _ ⟨hHeld, HO131.out, HO134.out, (by exact Kd.R_mono HO137.out (fun _ hk => ⟨hk.1.2, hk.2⟩)), BK121.out, BK122.out, HB.out⟩)
            · skip
              refine Kd.R_lit_step (Kd.int .i64) _ 3 ?hg (N := 19) ?hd (xs := ([a1_1] : List Int)) (inner := [.int .i64 a1_1]) (ok := fun _ => True) (okp := fun _ => True) ?hr ?hp (fun _ hk => hk) trivial (Below.refl _ _) (Nat.le_refl _) (by simp) ?_; (case hd => rfl); (case hg => rfl); (case hr => first | (go_simp; done) | (go_simp; rfl)); (case hp => exact (Reps.one (show Kd.M (Kd.int .i64) _ _ _ a1_1 [.int .i64 a1_1] from rfl) (Reps.none _ _)))
              intro v142 w19 ho20 hb hg_ hnew_
              clear hg_ hnew_
              (first | rw [← Ny141.out] at ho20 | (simp only [Int.reduceToNat] at ho20; rw [← Ny141.out] at ho20))
              have n0_ := mk (Kd.R_elder' HO131.out (Kd.R_base ho20) hb); have n1_ := mk (Kd.R_elder' HO134.out (Kd.R_base ho20) hb); have HO143 := mk (Kd.R_lower (Kd.R_new' (Kd.R_new' ho20 (Kd.R_lt HO131.out)) (Kd.R_lt HO134.out)) (below_size HB.out)); have n3_ := mk (blk_below BK121.out hb); have n4_ := mk (blk_below BK122.out hb); have n5_ := mk (below_step HB.out hb); replace HO131 := n0_; replace HO134 := n1_; replace BK121 := n3_; replace BK122 := n4_; replace HB := n5_; clear n0_ n1_ n3_ n4_ n5_; clear hb ho20
              refine hK.out _ _ ⟨(blk_cell BK121.out 0).trans rfl, (blk_cell BK121.out 1).trans rfl, (blk_cell BK122.out 0).trans rfl, (blk_cell BK122.out 1).trans rfl⟩ (fun hHeld => ?_)
              clear hK K
              refine norm_ (a' := ?_) ?_ ?_
              rotate_left
              · show Act.put _ (some 19) _ = _
                simp only [Act.put, List.setIfInBounds_toArray, List.set_cons_zero, List.set_cons_succ, i64_w, i32_w]
                rfl
              exact norm_ (by first | (simp only [putAll, Act.put, List.setIfInBounds_toArray, List.set_cons_zero, List.set_cons_succ]; done) | (simp only [putAll, Act.put, List.setIfInBounds_toArray, List.set_cons_zero, List.set_cons_succ]; rfl)) (hJ0_3_6_7_14 (v124, v127, v130, v133, v142) _ ⟨hHeld, HO131.out, HO134.out, (by exact Kd.R_mono HO143.out (fun _ hk => ⟨hk.1.2, hk.2⟩)), BK121.out, BK122.out, HB.out⟩)
          intro hJ0_3_6_7
          refine join_ (σ := Value × Value × Value × Value) 6 #[true, true, true, true, true, true, true, false, true, true, true, false, true, true, false, false, false, false] (fun s_ => [(5, s_.1), (8, s_.2.1), (11, s_.2.2.1), (13, s_.2.2.2)]) (fun s_ w' => (w'.cell? ⟨gb121, 0, none⟩ = some (.slice A0_0 l0_0.length c0_0) ∧ w'.cell? ⟨gb121, 1, none⟩ = some (.int .i64 a0_1) ∧ w'.cell? ⟨gb122, 0, none⟩ = some (.slice A1_0 l1_0.length c1_0) ∧ w'.cell? ⟨gb122, 1, none⟩ = some (.int .i64 a1_1)) ∧ (Kd.R (Kd.int .i64) 3 w' w.heap.size (fun k_ => some k_ ≠ (s_.2.2.1 : Value).ownBlock ∧ some k_ ≠ (s_.2.2.2 : Value).ownBlock) s_.2.1 y126) ∧ (Kd.R (Kd.int .i64) 3 w' w.heap.size (fun k_ => some k_ ≠ (s_.2.1 : Value).ownBlock ∧ some k_ ≠ (s_.2.2.2 : Value).ownBlock) s_.2.2.1 y129) ∧ (Kd.R (Kd.int .i64) 3 w' w.heap.size (fun k_ => some k_ ≠ (s_.2.1 : Value).ownBlock ∧ some k_ ≠ (s_.2.2.1 : Value).ownBlock) s_.2.2.2 y135) ∧ (w'.heap[gb121]? = some (.cells #[.slice A0_0 l0_0.length c0_0, .int .i64 a0_1] 24 (0, 0))) ∧ (w'.heap[gb122]? = some (.cells #[.slice A1_0 l1_0.length c1_0, .int .i64 a1_1] 24 (0, 0))) ∧ (Below w.heap.size w w')) ?_ ?_
          · skip
            rintro ⟨v124, v127, v130, v136⟩ w18 ⟨hS_, h0_, h1_, h2_, h3_, h4_, h5_⟩
            have n0_ : Aside0 (Kd.R (Kd.int .i64) 3 w18 w.heap.size (fun k_ => some k_ ≠ (v130 : Value).ownBlock ∧ some k_ ≠ (v136 : Value).ownBlock) v127 y126) := ⟨h0_⟩; have n1_ : Aside0 (Kd.R (Kd.int .i64) 3 w18 w.heap.size (fun k_ => some k_ ≠ (v127 : Value).ownBlock ∧ some k_ ≠ (v136 : Value).ownBlock) v130 y129) := ⟨h1_⟩; have n2_ : Aside0 (Kd.R (Kd.int .i64) 3 w18 w.heap.size (fun k_ => some k_ ≠ (v127 : Value).ownBlock ∧ some k_ ≠ (v130 : Value).ownBlock) v136 y135) := ⟨h2_⟩; have n3_ : Aside0 (w18.heap[gb121]? = some (.cells #[.slice A0_0 l0_0.length c0_0, .int .i64 a0_1] 24 (0, 0))) := ⟨h3_⟩; have n4_ : Aside0 (w18.heap[gb122]? = some (.cells #[.slice A1_0 l1_0.length c1_0, .int .i64 a1_1] 24 (0, 0))) := ⟨h4_⟩; have n5_ : Aside0 (Below w.heap.size w w18) := ⟨h5_⟩; clear BK121; clear BK122; clear HB; clear h0_ h1_ h2_ h3_ h4_ h5_; have HO128 := n0_; have HO131 := n1_; have HO137 := n2_; have BK121 := n3_; have BK122 := n4_; have HB := n5_; clear n0_ n1_ n2_ n3_ n4_ n5_
            have hHeld : w18.cell? ⟨gb121, 0, none⟩ = some (.slice A0_0 l0_0.length c0_0) ∧ w18.cell? ⟨gb121, 1, none⟩ = some (.int .i64 a0_1) ∧ w18.cell? ⟨gb122, 0, none⟩ = some (.slice A1_0 l1_0.length c1_0) ∧ w18.cell? ⟨gb122, 1, none⟩ = some (.int .i64 a1_1) := hS_
            obtain ⟨Ao20, co20, eo20⟩ := Kd.R_slice HO131.out
            (first | subst eo20 | (injection eo20 with f1_ f2_ f3_; have f4_ := f1_.symm; have f5_ := f3_.symm; clear f1_ f2_ f3_; subst f4_; subst f5_))
            refine norm_ (a' := ?_) ?_ ?_
            rotate_left
            · simp only [putAll, Act.put, List.setIfInBounds_toArray, List.set_cons_zero, List.set_cons_succ]
              rfl
            refine two_ (i := 7) (j := 14) (Ni := some 12) (Nj := some 19) #[true, true, true, true, true, true, true, true, true, true, true, false, true, true, false, false, false, false] #[true, true, true, true, true, true, true, false, true, true, true, false, true, true, true, false, false, false] rfl rfl rfl rfl (two_of HT_.out (by kernel_rfl)) (by decide) (by decide) (fun K hK => ?_) (fun K hK => ?_)
            · skip
              refine Kd.R_append_rows_step (Kd.int .i64) (w0 := w) w.heap.size (by rfl) (.tmp 8) (.tmp 11) 22 3 (.int .i64 0) 8 rfl Try.underlying22 info3 rfl (by decide) (by omega) v127 y126 y129 _ _ _ (fun k_ => some k_ ≠ (.slice Ao20 y129.length co20 : Value).ownBlock ∧ some k_ ≠ (v136 : Value).ownBlock) (fun _ => False) rfl rfl ?aO ?aR (fun _ _ h => h) (fun _ h => h.elim) ?aF ?aB ?aS ?aL ?_
              (case aR => repeat (first | exact (Kd.R_reads' HO131.out).2.2 | (with_reducible refine Kd.C_alloc ?_ _) | (with_reducible refine Kd.C_drewN ?_ _) | (with_reducible refine Kd.C_drew ?_)))
              (case aB => exact HB.out)
              (case aF => exact (fun k_ hk => ⟨Kd.fresh' (Kd.R_lt HO131.out) k_ hk, Kd.fresh' (Kd.R_lt HO137.out) k_ hk⟩))
              (case aO => exact HO128.out)
              (case aS => exact (below_size HB.out))
              (case aL => have := LMc4.out; omega)
              intro v133 w19 ho hb hg hat
              rw [← Ny132.out] at ho
              have n0_ := mk (blk_grown (g := gb121) (o := .cells #[.slice A0_0 l0_0.length c0_0, .int .i64 a0_1] 24 (0, 0)) BK121.out hg (Kd.R_ne HO128.out BK121.out (by decide))); have n1_ := mk (blk_grown (g := gb122) (o := .cells #[.slice A1_0 l1_0.length c1_0, .int .i64 a1_1] 24 (0, 0)) BK122.out hg (Kd.R_ne HO128.out BK122.out (by decide))); have n2_ := mk (Kd.R_after (ok := (fun k_ => some k_ ≠ (v136 : Value).ownBlock)) (by exact Kd.R_mono HO131.out (fun _ hk => ⟨hk.2, hk.1⟩)) hg hat); have n3_ := mk (Kd.R_after (ok := (fun k_ => some k_ ≠ (.slice Ao20 y129.length co20 : Value).ownBlock)) (by exact Kd.R_mono HO137.out (fun _ hk => ⟨hk.2, hk.1⟩)) hg hat); have n4_ := mk (hb); have HO134 := mk (ho); clear HO128; replace BK121 := n0_; replace BK122 := n1_; replace HO131 := n2_; replace HO137 := n3_; replace HB := n4_; clear n0_ n1_ n2_ n3_ n4_; clear ho hb hg hat
              refine hK.out _ _ ⟨(blk_cell BK121.out 0).trans rfl, (blk_cell BK121.out 1).trans rfl, (blk_cell BK122.out 0).trans rfl, (blk_cell BK122.out 1).trans rfl⟩ (fun hHeld => ?_)
              clear hK K
              refine norm_ (a' := ?_) ?_ ?_
              rotate_left
              · show Act.put _ (some 12) _ = _
                simp only [Act.put, List.setIfInBounds_toArray, List.set_cons_zero, List.set_cons_succ, i64_w, i32_w]
                rfl
              exact norm_ (by first | (simp only [putAll, Act.put, List.setIfInBounds_toArray, List.set_cons_zero, List.set_cons_succ]; done) | (simp only [putAll, Act.put, List.setIfInBounds_toArray, List.set_cons_zero, List.set_cons_succ]; rfl)) (hJ0_3_6_7_8 (v124, v127, .slice Ao20 y129.length co20, v133, v136) _ ⟨hHeld, (by exact Kd.R_mono HO131.out (fun _ hk => ⟨hk.2, hk.1⟩)), HO134.out, HO137.out, BK121.out, BK122.out, HB.out⟩)
            · skip
              refine Kd.R_lit_step (Kd.int .i64) _ 3 ?hg (N := 19) ?hd (xs := ([a1_1] : List Int)) (inner := [.int .i64 a1_1]) (ok := fun _ => True) (okp := fun _ => True) ?hr ?hp (fun _ hk => hk) trivial (Below.refl _ _) (Nat.le_refl _) (by simp) ?_; (case hd => rfl); (case hg => rfl); (case hr => first | (go_simp; done) | (go_simp; rfl)); (case hp => exact (Reps.one (show Kd.M (Kd.int .i64) _ _ _ a1_1 [.int .i64 a1_1] from rfl) (Reps.none _ _)))
              intro v142 w19 ho20 hb hg_ hnew_
              clear hg_ hnew_
              (first | rw [← Ny141.out] at ho20 | (simp only [Int.reduceToNat] at ho20; rw [← Ny141.out] at ho20))
              have n0_ := mk (Kd.R_elder' HO128.out (Kd.R_base ho20) hb); have n1_ := mk (Kd.R_elder' HO131.out (Kd.R_base ho20) hb); have n2_ := mk (Kd.R_elder' HO137.out (Kd.R_base ho20) hb); have HO143 := mk (Kd.R_lower (Kd.R_new' (Kd.R_new' (Kd.R_new' ho20 (Kd.R_lt HO128.out)) (Kd.R_lt HO131.out)) (Kd.R_lt HO137.out)) (below_size HB.out)); have n4_ := mk (blk_below BK121.out hb); have n5_ := mk (blk_below BK122.out hb); have n6_ := mk (below_step HB.out hb); replace HO128 := n0_; replace HO131 := n1_; replace HO137 := n2_; replace BK121 := n4_; replace BK122 := n5_; replace HB := n6_; clear n0_ n1_ n2_ n4_ n5_ n6_; clear hb ho20
              refine hK.out _ _ ⟨(blk_cell BK121.out 0).trans rfl, (blk_cell BK121.out 1).trans rfl, (blk_cell BK122.out 0).trans rfl, (blk_cell BK122.out 1).trans rfl⟩ (fun hHeld => ?_)
              clear hK K
              refine norm_ (a' := ?_) ?_ ?_
              rotate_left
              · show Act.put _ (some 19) _ = _
                simp only [Act.put, List.setIfInBounds_toArray, List.set_cons_zero, List.set_cons_succ, i64_w, i32_w]
                rfl
              exact norm_ (by first | (simp only [putAll, Act.put, List.setIfInBounds_toArray, List.set_cons_zero, List.set_cons_succ]; done) | (simp only [putAll, Act.put, List.setIfInBounds_toArray, List.set_cons_zero, List.set_cons_succ]; rfl)) (hJ0_3_6_8_14 (v124, v127, .slice Ao20 y129.length co20, v136, v142) _ ⟨hHeld, (by exact Kd.R_mono HO128.out (fun _ hk => ⟨hk.1.1, ⟨hk.1.2, hk.2⟩⟩)), (by exact Kd.R_mono HO131.out (fun _ hk => ⟨hk.1.1, ⟨hk.1.2, hk.2⟩⟩)), (by exact Kd.R_mono HO137.out (fun _ hk => ⟨hk.1.1, ⟨hk.1.2, hk.2⟩⟩)), (by exact Kd.R_mono HO143.out (fun _ hk => ⟨hk.1.1.2, ⟨hk.1.2, hk.2⟩⟩)), BK121.out, BK122.out, HB.out⟩)
          intro hJ0_3_6_8
          refine join_ (σ := Value × Value × Value × Value) 6 #[true, true, true, true, true, true, true, false, false, true, true, false, true, true, true, false, false, false] (fun s_ => [(5, s_.1), (8, s_.2.1), (11, s_.2.2.1), (19, s_.2.2.2)]) (fun s_ w' => (w'.cell? ⟨gb121, 0, none⟩ = some (.slice A0_0 l0_0.length c0_0) ∧ w'.cell? ⟨gb121, 1, none⟩ = some (.int .i64 a0_1) ∧ w'.cell? ⟨gb122, 0, none⟩ = some (.slice A1_0 l1_0.length c1_0) ∧ w'.cell? ⟨gb122, 1, none⟩ = some (.int .i64 a1_1)) ∧ (Kd.R (Kd.int .i64) 3 w' w.heap.size (fun k_ => some k_ ≠ (s_.2.2.1 : Value).ownBlock ∧ some k_ ≠ (s_.2.2.2 : Value).ownBlock) s_.2.1 y126) ∧ (Kd.R (Kd.int .i64) 3 w' w.heap.size (fun k_ => some k_ ≠ (s_.2.1 : Value).ownBlock ∧ some k_ ≠ (s_.2.2.2 : Value).ownBlock) s_.2.2.1 y129) ∧ (Kd.R (Kd.int .i64) 3 w' w.heap.size (fun k_ => some k_ ≠ (s_.2.1 : Value).ownBlock ∧ some k_ ≠ (s_.2.2.1 : Value).ownBlock) s_.2.2.2 y141) ∧ (w'.heap[gb121]? = some (.cells #[.slice A0_0 l0_0.length c0_0, .int .i64 a0_1] 24 (0, 0))) ∧ (w'.heap[gb122]? = some (.cells #[.slice A1_0 l1_0.length c1_0, .int .i64 a1_1] 24 (0, 0))) ∧ (Below w.heap.size w w')) ?_ ?_
          · skip
            rintro ⟨v124, v127, v130, v142⟩ w18 ⟨hS_, h0_, h1_, h2_, h3_, h4_, h5_⟩
            have n0_ : Aside0 (Kd.R (Kd.int .i64) 3 w18 w.heap.size (fun k_ => some k_ ≠ (v130 : Value).ownBlock ∧ some k_ ≠ (v142 : Value).ownBlock) v127 y126) := ⟨h0_⟩; have n1_ : Aside0 (Kd.R (Kd.int .i64) 3 w18 w.heap.size (fun k_ => some k_ ≠ (v127 : Value).ownBlock ∧ some k_ ≠ (v142 : Value).ownBlock) v130 y129) := ⟨h1_⟩; have n2_ : Aside0 (Kd.R (Kd.int .i64) 3 w18 w.heap.size (fun k_ => some k_ ≠ (v127 : Value).ownBlock ∧ some k_ ≠ (v130 : Value).ownBlock) v142 y141) := ⟨h2_⟩; have n3_ : Aside0 (w18.heap[gb121]? = some (.cells #[.slice A0_0 l0_0.length c0_0, .int .i64 a0_1] 24 (0, 0))) := ⟨h3_⟩; have n4_ : Aside0 (w18.heap[gb122]? = some (.cells #[.slice A1_0 l1_0.length c1_0, .int .i64 a1_1] 24 (0, 0))) := ⟨h4_⟩; have n5_ : Aside0 (Below w.heap.size w w18) := ⟨h5_⟩; clear BK121; clear BK122; clear HB; clear h0_ h1_ h2_ h3_ h4_ h5_; have HO128 := n0_; have HO131 := n1_; have HO143 := n2_; have BK121 := n3_; have BK122 := n4_; have HB := n5_; clear n0_ n1_ n2_ n3_ n4_ n5_
            have hHeld : w18.cell? ⟨gb121, 0, none⟩ = some (.slice A0_0 l0_0.length c0_0) ∧ w18.cell? ⟨gb121, 1, none⟩ = some (.int .i64 a0_1) ∧ w18.cell? ⟨gb122, 0, none⟩ = some (.slice A1_0 l1_0.length c1_0) ∧ w18.cell? ⟨gb122, 1, none⟩ = some (.int .i64 a1_1) := hS_
            obtain ⟨Ao20, co20, eo20⟩ := Kd.R_slice HO131.out
            (first | subst eo20 | (injection eo20 with f1_ f2_ f3_; have f4_ := f1_.symm; have f5_ := f3_.symm; clear f1_ f2_ f3_; subst f4_; subst f5_))
            refine norm_ (a' := ?_) ?_ ?_
            rotate_left
            · simp only [putAll, Act.put, List.setIfInBounds_toArray, List.set_cons_zero, List.set_cons_succ]
              rfl
            refine two_ (i := 7) (j := 8) (Ni := some 12) (Nj := some 13) #[true, true, true, true, true, true, true, true, false, true, true, false, true, true, true, false, false, false] #[true, true, true, true, true, true, true, false, true, true, true, false, true, true, true, false, false, false] rfl rfl rfl rfl (two_of HT_.out (by kernel_rfl)) (by decide) (by decide) (fun K hK => ?_) (fun K hK => ?_)
            · skip
              refine Kd.R_append_rows_step (Kd.int .i64) (w0 := w) w.heap.size (by rfl) (.tmp 8) (.tmp 11) 22 3 (.int .i64 0) 8 rfl Try.underlying22 info3 rfl (by decide) (by omega) v127 y126 y129 _ _ _ (fun k_ => some k_ ≠ (.slice Ao20 y129.length co20 : Value).ownBlock ∧ some k_ ≠ (v142 : Value).ownBlock) (fun _ => False) rfl rfl ?aO ?aR (fun _ _ h => h) (fun _ h => h.elim) ?aF ?aB ?aS ?aL ?_
              (case aR => repeat (first | exact (Kd.R_reads' HO131.out).2.2 | (with_reducible refine Kd.C_alloc ?_ _) | (with_reducible refine Kd.C_drewN ?_ _) | (with_reducible refine Kd.C_drew ?_)))
              (case aB => exact HB.out)
              (case aF => exact (fun k_ hk => ⟨Kd.fresh' (Kd.R_lt HO131.out) k_ hk, Kd.fresh' (Kd.R_lt HO143.out) k_ hk⟩))
              (case aO => exact HO128.out)
              (case aS => exact (below_size HB.out))
              (case aL => have := LMc4.out; omega)
              intro v133 w19 ho hb hg hat
              rw [← Ny132.out] at ho
              have n0_ := mk (blk_grown (g := gb121) (o := .cells #[.slice A0_0 l0_0.length c0_0, .int .i64 a0_1] 24 (0, 0)) BK121.out hg (Kd.R_ne HO128.out BK121.out (by decide))); have n1_ := mk (blk_grown (g := gb122) (o := .cells #[.slice A1_0 l1_0.length c1_0, .int .i64 a1_1] 24 (0, 0)) BK122.out hg (Kd.R_ne HO128.out BK122.out (by decide))); have n2_ := mk (Kd.R_after (ok := (fun k_ => some k_ ≠ (v142 : Value).ownBlock)) (by exact Kd.R_mono HO131.out (fun _ hk => ⟨hk.2, hk.1⟩)) hg hat); have n3_ := mk (Kd.R_after (ok := (fun k_ => some k_ ≠ (.slice Ao20 y129.length co20 : Value).ownBlock)) (by exact Kd.R_mono HO143.out (fun _ hk => ⟨hk.2, hk.1⟩)) hg hat); have n4_ := mk (hb); have HO134 := mk (ho); clear HO128; replace BK121 := n0_; replace BK122 := n1_; replace HO131 := n2_; replace HO143 := n3_; replace HB := n4_; clear n0_ n1_ n2_ n3_ n4_; clear ho hb hg hat
              refine hK.out _ _ ⟨(blk_cell BK121.out 0).trans rfl, (blk_cell BK121.out 1).trans rfl, (blk_cell BK122.out 0).trans rfl, (blk_cell BK122.out 1).trans rfl⟩ (fun hHeld => ?_)
              clear hK K
              refine norm_ (a' := ?_) ?_ ?_
              rotate_left
              · show Act.put _ (some 12) _ = _
                simp only [Act.put, List.setIfInBounds_toArray, List.set_cons_zero, List.set_cons_succ, i64_w, i32_w]
                rfl
              exact norm_ (by first | (simp only [putAll, Act.put, List.setIfInBounds_toArray, List.set_cons_zero, List.set_cons_succ]; done) | (simp only [putAll, Act.put, List.setIfInBounds_toArray, List.set_cons_zero, List.set_cons_succ]; rfl)) (hJ0_3_6_7_14 (v124, v127, .slice Ao20 y129.length co20, v133, v142) _ ⟨hHeld, (by exact Kd.R_mono HO131.out (fun _ hk => ⟨hk.2, hk.1⟩)), HO134.out, HO143.out, BK121.out, BK122.out, HB.out⟩)
            · skip
              refine Kd.R_lit_step (Kd.int .i64) _ 3 ?hg (N := 13) ?hd (xs := ([] : List Int)) (inner := []) (ok := fun _ => True) (okp := fun _ => True) ?hr ?hp (fun _ hk => hk) trivial (Below.refl _ _) (Nat.le_refl _) (by simp) ?_; (case hd => rfl); (case hg => rfl); (case hr => first | (go_simp; done) | (go_simp; rfl)); (case hp => exact (Reps.none _ _))
              intro v136 w19 ho20 hb hg_ hnew_
              clear hg_ hnew_
              (first | rw [← Ny135.out] at ho20 | (simp only [Int.reduceToNat] at ho20; rw [← Ny135.out] at ho20))
              have n0_ := mk (Kd.R_elder' HO128.out (Kd.R_base ho20) hb); have n1_ := mk (Kd.R_elder' HO131.out (Kd.R_base ho20) hb); have n2_ := mk (Kd.R_elder' HO143.out (Kd.R_base ho20) hb); have HO137 := mk (Kd.R_lower (Kd.R_new' (Kd.R_new' (Kd.R_new' ho20 (Kd.R_lt HO128.out)) (Kd.R_lt HO131.out)) (Kd.R_lt HO143.out)) (below_size HB.out)); have n4_ := mk (blk_below BK121.out hb); have n5_ := mk (blk_below BK122.out hb); have n6_ := mk (below_step HB.out hb); replace HO128 := n0_; replace HO131 := n1_; replace HO143 := n2_; replace BK121 := n4_; replace BK122 := n5_; replace HB := n6_; clear n0_ n1_ n2_ n4_ n5_ n6_; clear hb ho20
              refine hK.out _ _ ⟨(blk_cell BK121.out 0).trans rfl, (blk_cell BK121.out 1).trans rfl, (blk_cell BK122.out 0).trans rfl, (blk_cell BK122.out 1).trans rfl⟩ (fun hHeld => ?_)
              clear hK K
              refine norm_ (a' := ?_) ?_ ?_
              rotate_left
              · show Act.put _ (some 13) _ = _
                simp only [Act.put, List.setIfInBounds_toArray, List.set_cons_zero, List.set_cons_succ, i64_w, i32_w]
                rfl
              exact norm_ (by first | (simp only [putAll, Act.put, List.setIfInBounds_toArray, List.set_cons_zero, List.set_cons_succ]; done) | (simp only [putAll, Act.put, List.setIfInBounds_toArray, List.set_cons_zero, List.set_cons_succ]; rfl)) (hJ0_3_6_8_14 (v124, v127, .slice Ao20 y129.length co20, v136, v142) _ ⟨hHeld, (by exact Kd.R_mono HO128.out (fun _ hk => ⟨hk.1.1, ⟨hk.2, hk.1.2⟩⟩)), (by exact Kd.R_mono HO131.out (fun _ hk => ⟨hk.1.1, ⟨hk.2, hk.1.2⟩⟩)), (by exact Kd.R_mono HO137.out (fun _ hk => ⟨hk.1.1.2, ⟨hk.1.2, hk.2⟩⟩)), (by exact Kd.R_mono HO143.out (fun _ hk => ⟨hk.1.1, ⟨hk.1.2, hk.2⟩⟩)), BK121.out, BK122.out, HB.out⟩)
          intro hJ0_3_6_14
          refine join_ (σ := Value × Value × Value × Value) 6 #[true, true, true, true, true, true, false, false, true, true, true, false, true, true, true, false, false, false] (fun s_ => [(5, s_.1), (8, s_.2.1), (13, s_.2.2.1), (19, s_.2.2.2)]) (fun s_ w' => (w'.cell? ⟨gb121, 0, none⟩ = some (.slice A0_0 l0_0.length c0_0) ∧ w'.cell? ⟨gb121, 1, none⟩ = some (.int .i64 a0_1) ∧ w'.cell? ⟨gb122, 0, none⟩ = some (.slice A1_0 l1_0.length c1_0) ∧ w'.cell? ⟨gb122, 1, none⟩ = some (.int .i64 a1_1)) ∧ (Kd.R (Kd.int .i64) 3 w' w.heap.size (fun k_ => some k_ ≠ (s_.2.2.1 : Value).ownBlock ∧ some k_ ≠ (s_.2.2.2 : Value).ownBlock) s_.2.1 y126) ∧ (Kd.R (Kd.int .i64) 3 w' w.heap.size (fun k_ => some k_ ≠ (s_.2.1 : Value).ownBlock ∧ some k_ ≠ (s_.2.2.2 : Value).ownBlock) s_.2.2.1 y135) ∧ (Kd.R (Kd.int .i64) 3 w' w.heap.size (fun k_ => some k_ ≠ (s_.2.1 : Value).ownBlock ∧ some k_ ≠ (s_.2.2.1 : Value).ownBlock) s_.2.2.2 y141) ∧ (w'.heap[gb121]? = some (.cells #[.slice A0_0 l0_0.length c0_0, .int .i64 a0_1] 24 (0, 0))) ∧ (w'.heap[gb122]? = some (.cells #[.slice A1_0 l1_0.length c1_0, .int .i64 a1_1] 24 (0, 0))) ∧ (Below w.heap.size w w')) ?_ ?_
          · skip
            rintro ⟨v124, v127, v136, v142⟩ w18 ⟨hS_, h0_, h1_, h2_, h3_, h4_, h5_⟩
            have n0_ : Aside0 (Kd.R (Kd.int .i64) 3 w18 w.heap.size (fun k_ => some k_ ≠ (v136 : Value).ownBlock ∧ some k_ ≠ (v142 : Value).ownBlock) v127 y126) := ⟨h0_⟩; have n1_ : Aside0 (Kd.R (Kd.int .i64) 3 w18 w.heap.size (fun k_ => some k_ ≠ (v127 : Value).ownBlock ∧ some k_ ≠ (v142 : Value).ownBlock) v136 y135) := ⟨h1_⟩; have n2_ : Aside0 (Kd.R (Kd.int .i64) 3 w18 w.heap.size (fun k_ => some k_ ≠ (v127 : Value).ownBlock ∧ some k_ ≠ (v136 : Value).ownBlock) v142 y141) := ⟨h2_⟩; have n3_ : Aside0 (w18.heap[gb121]? = some (.cells #[.slice A0_0 l0_0.length c0_0, .int .i64 a0_1] 24 (0, 0))) := ⟨h3_⟩; have n4_ : Aside0 (w18.heap[gb122]? = some (.cells #[.slice A1_0 l1_0.length c1_0, .int .i64 a1_1] 24 (0, 0))) := ⟨h4_⟩; have n5_ : Aside0 (Below w.heap.size w w18) := ⟨h5_⟩; clear BK121; clear BK122; clear HB; clear h0_ h1_ h2_ h3_ h4_ h5_; have HO128 := n0_; have HO137 := n1_; have HO143 := n2_; have BK121 := n3_; have BK122 := n4_; have HB := n5_; clear n0_ n1_ n2_ n3_ n4_ n5_
            have hHeld : w18.cell? ⟨gb121, 0, none⟩ = some (.slice A0_0 l0_0.length c0_0) ∧ w18.cell? ⟨gb121, 1, none⟩ = some (.int .i64 a0_1) ∧ w18.cell? ⟨gb122, 0, none⟩ = some (.slice A1_0 l1_0.length c1_0) ∧ w18.cell? ⟨gb122, 1, none⟩ = some (.int .i64 a1_1) := hS_
            refine norm_ (a' := ?_) ?_ ?_
            rotate_left
            · simp only [putAll, Act.put, List.setIfInBounds_toArray, List.set_cons_zero, List.set_cons_succ]
              rfl
            refine one_ (i := 6) (N := some 11) #[true, true, true, true, true, true, true, false, true, true, true, false, true, true, true, false, false, false] rfl rfl (one_of HT_.out (by kernel_rfl)) (by decide) (fun K hK => ?_)
            refine Kd.R_lit_step (Kd.int .i64) _ 3 ?hg (N := 11) ?hd (xs := ([a0_1] : List Int)) (inner := [.int .i64 a0_1]) (ok := fun _ => True) (okp := fun _ => True) ?hr ?hp (fun _ hk => hk) trivial (Below.refl _ _) (Nat.le_refl _) (by simp) ?_; (case hd => rfl); (case hg => rfl); (case hr => first | (go_simp; done) | (go_simp; rfl)); (case hp => exact (Reps.one (show Kd.M (Kd.int .i64) _ _ _ a0_1 [.int .i64 a0_1] from rfl) (Reps.none _ _)))
            intro v130 w19 ho20 hb hg_ hnew_
            clear hg_ hnew_
            (first | rw [← Ny129.out] at ho20 | (simp only [Int.reduceToNat] at ho20; rw [← Ny129.out] at ho20))
            have n0_ := mk (Kd.R_elder' HO128.out (Kd.R_base ho20) hb); have n1_ := mk (Kd.R_elder' HO137.out (Kd.R_base ho20) hb); have n2_ := mk (Kd.R_elder' HO143.out (Kd.R_base ho20) hb); have HO131 := mk (Kd.R_lower (Kd.R_new' (Kd.R_new' (Kd.R_new' ho20 (Kd.R_lt HO128.out)) (Kd.R_lt HO137.out)) (Kd.R_lt HO143.out)) (below_size HB.out)); have n4_ := mk (blk_below BK121.out hb); have n5_ := mk (blk_below BK122.out hb); have n6_ := mk (below_step HB.out hb); replace HO128 := n0_; replace HO137 := n1_; replace HO143 := n2_; replace BK121 := n4_; replace BK122 := n5_; replace HB := n6_; clear n0_ n1_ n2_ n4_ n5_ n6_; clear hb ho20
            refine hK.out _ _ ⟨(blk_cell BK121.out 0).trans rfl, (blk_cell BK121.out 1).trans rfl, (blk_cell BK122.out 0).trans rfl, (blk_cell BK122.out 1).trans rfl⟩ (fun hHeld => ?_)
            clear hK K
            refine norm_ (a' := ?_) ?_ ?_
            rotate_left
            · show Act.put _ (some 11) _ = _
              simp only [Act.put, List.setIfInBounds_toArray, List.set_cons_zero, List.set_cons_succ, i64_w, i32_w]
              rfl
            exact norm_ (by first | (simp only [putAll, Act.put, List.setIfInBounds_toArray, List.set_cons_zero, List.set_cons_succ]; done) | (simp only [putAll, Act.put, List.setIfInBounds_toArray, List.set_cons_zero, List.set_cons_succ]; rfl)) (hJ0_3_6_8_14 (v124, v127, v130, v136, v142) _ ⟨hHeld, (by exact Kd.R_mono HO128.out (fun _ hk => ⟨hk.2, ⟨hk.1.1, hk.1.2⟩⟩)), (by exact Kd.R_mono HO131.out (fun _ hk => ⟨hk.1.1.2, ⟨hk.1.2, hk.2⟩⟩)), (by exact Kd.R_mono HO137.out (fun _ hk => ⟨hk.1.1, ⟨hk.2, hk.1.2⟩⟩)), (by exact Kd.R_mono HO143.out (fun _ hk => ⟨hk.1.1, ⟨hk.2, hk.1.2⟩⟩)), BK121.out, BK122.out, HB.out⟩)
          intro hJ0_3_8_14
          refine join_ (σ := Value × Value × Value × Value) 6 #[true, true, true, false, true, true, true, false, true, true, true, false, true, true, true, false, false, false] (fun s_ => [(5, s_.1), (11, s_.2.1), (13, s_.2.2.1), (19, s_.2.2.2)]) (fun s_ w' => (w'.cell? ⟨gb121, 0, none⟩ = some (.slice A0_0 l0_0.length c0_0) ∧ w'.cell? ⟨gb121, 1, none⟩ = some (.int .i64 a0_1) ∧ w'.cell? ⟨gb122, 0, none⟩ = some (.slice A1_0 l1_0.length c1_0) ∧ w'.cell? ⟨gb122, 1, none⟩ = some (.int .i64 a1_1)) ∧ (Kd.R (Kd.int .i64) 3 w' w.heap.size (fun k_ => some k_ ≠ (s_.2.1 : Value).ownBlock ∧ some k_ ≠ (s_.2.2.1 : Value).ownBlock ∧ some k_ ≠ (s_.2.2.2 : Value).ownBlock) s_.1 y123) ∧ (Kd.R (Kd.int .i64) 3 w' w.heap.size (fun k_ => some k_ ≠ (s_.1 : Value).ownBlock ∧ some k_ ≠ (s_.2.2.1 : Value).ownBlock ∧ some k_ ≠ (s_.2.2.2 : Value).ownBlock) s_.2.1 y129) ∧ (Kd.R (Kd.int .i64) 3 w' w.heap.size (fun k_ => some k_ ≠ (s_.1 : Value).ownBlock ∧ some k_ ≠ (s_.2.1 : Value).ownBlock ∧ some k_ ≠ (s_.2.2.2 : Value).ownBlock) s_.2.2.1 y135) ∧ (Kd.R (Kd.int .i64) 3 w' w.heap.size (fun k_ => some k_ ≠ (s_.1 : Value).ownBlock ∧ some k_ ≠ (s_.2.1 : Value).ownBlock ∧ some k_ ≠ (s_.2.2.1 : Value).ownBlock) s_.2.2.2 y141) ∧ (w'.heap[gb121]? = some (.cells #[.slice A0_0 l0_0.length c0_0, .int .i64 a0_1] 24 (0, 0))) ∧ (w'.heap[gb122]? = some (.cells #[.slice A1_0 l1_0.length c1_0, .int .i64 a1_1] 24 (0, 0))) ∧ (Below w.heap.size w w')) ?_ ?_
          · skip
            rintro ⟨v124, v130, v136, v142⟩ w19 ⟨hS_, h0_, h1_, h2_, h3_, h4_, h5_, h6_⟩
            have n0_ : Aside0 (Kd.R (Kd.int .i64) 3 w19 w.heap.size (fun k_ => some k_ ≠ (v130 : Value).ownBlock ∧ some k_ ≠ (v136 : Value).ownBlock ∧ some k_ ≠ (v142 : Value).ownBlock) v124 y123) := ⟨h0_⟩; have n1_ : Aside0 (Kd.R (Kd.int .i64) 3 w19 w.heap.size (fun k_ => some k_ ≠ (v124 : Value).ownBlock ∧ some k_ ≠ (v136 : Value).ownBlock ∧ some k_ ≠ (v142 : Value).ownBlock) v130 y129) := ⟨h1_⟩; have n2_ : Aside0 (Kd.R (Kd.int .i64) 3 w19 w.heap.size (fun k_ => some k_ ≠ (v124 : Value).ownBlock ∧ some k_ ≠ (v130 : Value).ownBlock ∧ some k_ ≠ (v142 : Value).ownBlock) v136 y135) := ⟨h2_⟩; have n3_ : Aside0 (Kd.R (Kd.int .i64) 3 w19 w.heap.size (fun k_ => some k_ ≠ (v124 : Value).ownBlock ∧ some k_ ≠ (v130 : Value).ownBlock ∧ some k_ ≠ (v136 : Value).ownBlock) v142 y141) := ⟨h3_⟩; have n4_ : Aside0 (w19.heap[gb121]? = some (.cells #[.slice A0_0 l0_0.length c0_0, .int .i64 a0_1] 24 (0, 0))) := ⟨h4_⟩; have n5_ : Aside0 (w19.heap[gb122]? = some (.cells #[.slice A1_0 l1_0.length c1_0, .int .i64 a1_1] 24 (0, 0))) := ⟨h5_⟩; have n6_ : Aside0 (Below w.heap.size w w19) := ⟨h6_⟩; clear BK121; clear BK122; clear HB; clear h0_ h1_ h2_ h3_ h4_ h5_ h6_; have HO125 := n0_; have HO131 := n1_; have HO137 := n2_; have HO143 := n3_; have BK121 := n4_; have BK122 := n5_; have HB := n6_; clear n0_ n1_ n2_ n3_ n4_ n5_ n6_
            have hHeld : w19.cell? ⟨gb121, 0, none⟩ = some (.slice A0_0 l0_0.length c0_0) ∧ w19.cell? ⟨gb121, 1, none⟩ = some (.int .i64 a0_1) ∧ w19.cell? ⟨gb122, 0, none⟩ = some (.slice A1_0 l1_0.length c1_0) ∧ w19.cell? ⟨gb122, 1, none⟩ = some (.int .i64 a1_1) := hS_
            refine norm_ (a' := ?_) ?_ ?_
            rotate_left
            · simp only [putAll, Act.put, List.setIfInBounds_toArray, List.set_cons_zero, List.set_cons_succ]
              rfl
            refine one_ (i := 3) (N := some 8) #[true, true, true, true, true, true, true, false, true, true, true, false, true, true, true, false, false, false] rfl rfl (one_of HT_.out (by kernel_rfl)) (by decide) (fun K hK => ?_)
            refine Kd.R_append_rows_step (Kd.int .i64) (w0 := w) w.heap.size (by rfl) (.tmp 5) (.tmp 7) 22 3 (.int .i64 0) 8 rfl Try.underlying22 info3 rfl (by decide) (by omega) v124 y123 l0_0 _ _ _ (fun k_ => some k_ ≠ (v130 : Value).ownBlock ∧ some k_ ≠ (v136 : Value).ownBlock ∧ some k_ ≠ (v142 : Value).ownBlock) (fun _ => False) rfl rfl ?aO ?aR (fun _ _ h => h) (fun _ h => h.elim) ?aF ?aB ?aS ?aL ?_
            (case aR => repeat (first | exact (Kd.C_below HR0_0.out HB.out) | (with_reducible refine Kd.C_alloc ?_ _) | (with_reducible refine Kd.C_drewN ?_ _) | (with_reducible refine Kd.C_drew ?_)))
            (case aB => exact HB.out)
            (case aF => exact (fun k_ hk => ⟨Kd.fresh' (Kd.R_lt HO131.out) k_ hk, Kd.fresh' (Kd.R_lt HO137.out) k_ hk, Kd.fresh' (Kd.R_lt HO143.out) k_ hk⟩))
            (case aO => exact HO125.out)
            (case aS => exact (below_size HB.out))
            (case aL => have := LMc3.out; omega)
            intro v127 w20 ho hb hg hat
            rw [← Ny126.out] at ho
            have n0_ := mk (blk_grown (g := gb121) (o := .cells #[.slice A0_0 l0_0.length c0_0, .int .i64 a0_1] 24 (0, 0)) BK121.out hg (Kd.R_ne HO125.out BK121.out (by decide))); have n1_ := mk (blk_grown (g := gb122) (o := .cells #[.slice A1_0 l1_0.length c1_0, .int .i64 a1_1] 24 (0, 0)) BK122.out hg (Kd.R_ne HO125.out BK122.out (by decide))); have n2_ := mk (Kd.R_after (ok := (fun k_ => some k_ ≠ (v136 : Value).ownBlock ∧ some k_ ≠ (v142 : Value).ownBlock)) (by exact Kd.R_mono HO131.out (fun _ hk => ⟨⟨hk.2.1, hk.2.2⟩, hk.1⟩)) hg hat); have n3_ := mk (Kd.R_after (ok := (fun k_ => some k_ ≠ (v130 : Value).ownBlock ∧ some k_ ≠ (v142 : Value).ownBlock)) (by exact Kd.R_mono HO137.out (fun _ hk => ⟨⟨hk.2.1, hk.2.2⟩, hk.1⟩)) hg hat); have n4_ := mk (Kd.R_after (ok := (fun k_ => some k_ ≠ (v130 : Value).ownBlock ∧ some k_ ≠ (v136 : Value).ownBlock)) (by exact Kd.R_mono HO143.out (fun _ hk => ⟨⟨hk.2.1, hk.2.2⟩, hk.1⟩)) hg hat); have n5_ := mk (hb); have HO128 := mk (ho); clear HO125; replace BK121 := n0_; replace BK122 := n1_; replace HO131 := n2_; replace HO137 := n3_; replace HO143 := n4_; replace HB := n5_; clear n0_ n1_ n2_ n3_ n4_ n5_; clear ho hb hg hat
            refine hK.out _ _ ⟨(blk_cell BK121.out 0).trans rfl, (blk_cell BK121.out 1).trans rfl, (blk_cell BK122.out 0).trans rfl, (blk_cell BK122.out 1).trans rfl⟩ (fun hHeld => ?_)
            clear hK K
            refine norm_ (a' := ?_) ?_ ?_
            rotate_left
            · show Act.put _ (some 8) _ = _
              simp only [Act.put, List.setIfInBounds_toArray, List.set_cons_zero, List.set_cons_succ, i64_w, i32_w]
              rfl
            exact norm_ (by first | (simp only [putAll, Act.put, List.setIfInBounds_toArray, List.set_cons_zero, List.set_cons_succ]; done) | (simp only [putAll, Act.put, List.setIfInBounds_toArray, List.set_cons_zero, List.set_cons_succ]; rfl)) (hJ0_3_6_8_14 (v124, v127, v130, v136, v142) _ ⟨hHeld, HO128.out, (by exact Kd.R_mono HO131.out (fun _ hk => ⟨hk.2, ⟨hk.1.1, hk.1.2⟩⟩)), (by exact Kd.R_mono HO137.out (fun _ hk => ⟨hk.2, ⟨hk.1.1, hk.1.2⟩⟩)), (by exact Kd.R_mono HO143.out (fun _ hk => ⟨hk.2, ⟨hk.1.1, hk.1.2⟩⟩)), BK121.out, BK122.out, HB.out⟩)
          intro hJ0_6_8_14
          refine join_ (σ := Value × Value × Value) 7 #[true, true, true, true, true, true, true, false, false, true, true, false, true, true, false, false, false, false] (fun s_ => [(5, s_.1), (8, s_.2.1), (11, s_.2.2)]) (fun s_ w' => (w'.cell? ⟨gb121, 0, none⟩ = some (.slice A0_0 l0_0.length c0_0) ∧ w'.cell? ⟨gb121, 1, none⟩ = some (.int .i64 a0_1) ∧ w'.cell? ⟨gb122, 0, none⟩ = some (.slice A1_0 l1_0.length c1_0) ∧ w'.cell? ⟨gb122, 1, none⟩ = some (.int .i64 a1_1)) ∧ (Kd.R (Kd.int .i64) 3 w' w.heap.size (fun k_ => some k_ ≠ (s_.2.2 : Value).ownBlock) s_.2.1 y126) ∧ (Kd.R (Kd.int .i64) 3 w' w.heap.size (fun k_ => some k_ ≠ (s_.2.1 : Value).ownBlock) s_.2.2 y129) ∧ (w'.heap[gb121]? = some (.cells #[.slice A0_0 l0_0.length c0_0, .int .i64 a0_1] 24 (0, 0))) ∧ (w'.heap[gb122]? = some (.cells #[.slice A1_0 l1_0.length c1_0, .int .i64 a1_1] 24 (0, 0))) ∧ (Below w.heap.size w w')) ?_ ?_
          · skip
            rintro ⟨v124, v127, v130⟩ w16 ⟨hS_, h0_, h1_, h2_, h3_, h4_⟩
            have n0_ : Aside0 (Kd.R (Kd.int .i64) 3 w16 w.heap.size (fun k_ => some k_ ≠ (v130 : Value).ownBlock) v127 y126) := ⟨h0_⟩; have n1_ : Aside0 (Kd.R (Kd.int .i64) 3 w16 w.heap.size (fun k_ => some k_ ≠ (v127 : Value).ownBlock) v130 y129) := ⟨h1_⟩; have n2_ : Aside0 (w16.heap[gb121]? = some (.cells #[.slice A0_0 l0_0.length c0_0, .int .i64 a0_1] 24 (0, 0))) := ⟨h2_⟩; have n3_ : Aside0 (w16.heap[gb122]? = some (.cells #[.slice A1_0 l1_0.length c1_0, .int .i64 a1_1] 24 (0, 0))) := ⟨h3_⟩; have n4_ : Aside0 (Below w.heap.size w w16) := ⟨h4_⟩; clear BK121; clear BK122; clear HB; clear h0_ h1_ h2_ h3_ h4_; have HO128 := n0_; have HO131 := n1_; have BK121 := n2_; have BK122 := n3_; have HB := n4_; clear n0_ n1_ n2_ n3_ n4_
            have hHeld : w16.cell? ⟨gb121, 0, none⟩ = some (.slice A0_0 l0_0.length c0_0) ∧ w16.cell? ⟨gb121, 1, none⟩ = some (.int .i64 a0_1) ∧ w16.cell? ⟨gb122, 0, none⟩ = some (.slice A1_0 l1_0.length c1_0) ∧ w16.cell? ⟨gb122, 1, none⟩ = some (.int .i64 a1_1) := hS_
            obtain ⟨Ao18, co18, eo18⟩ := Kd.R_slice HO131.out
            (first | subst eo18 | (injection eo18 with f1_ f2_ f3_; have f4_ := f1_.symm; have f5_ := f3_.symm; clear f1_ f2_ f3_; subst f4_; subst f5_))
            refine norm_ (a' := ?_) ?_ ?_
            rotate_left
            · simp only [putAll, Act.put, List.setIfInBounds_toArray, List.set_cons_zero, List.set_cons_succ]
              rfl
            refine three_ (i := 7) (j := 8) (k := 14) (Ni := some 12) (Nj := some 13) (Nk := some 19) #[true, true, true, true, true, true, true, true, false, true, true, false, true, true, false, false, false, false] #[true, true, true, true, true, true, true, false, true, true, true, false, true, true, false, false, false, false] #[true, true, true, true, true, true, true, false, false, true, true, false, true, true, true, false, false, false] rfl rfl rfl rfl rfl rfl (three_of HT_.out (by kernel_rfl)) (by decide) (by decide) (by decide) (fun K hK => ?_) (fun K hK => ?_) (fun K hK => ?_)
            · skip
              refine Kd.R_append_rows_step (Kd.int .i64) (w0 := w) w.heap.size (by rfl) (.tmp 8) (.tmp 11) 22 3 (.int .i64 0) 8 rfl Try.underlying22 info3 rfl (by decide) (by omega) v127 y126 y129 _ _ _ (fun k_ => some k_ ≠ (.slice Ao18 y129.length co18 : Value).ownBlock) (fun _ => False) rfl rfl ?aO ?aR (fun _ _ h => h) (fun _ h => h.elim) ?aF ?aB ?aS ?aL ?_
              (case aR => repeat (first | exact (Kd.R_reads' HO131.out).2.2 | (with_reducible refine Kd.C_alloc ?_ _) | (with_reducible refine Kd.C_drewN ?_ _) | (with_reducible refine Kd.C_drew ?_)))
              (case aB => exact HB.out)
              (case aF => exact (fun k_ hk => Kd.fresh' (Kd.R_lt HO131.out) k_ hk))
              (case aO => exact HO128.out)
              (case aS => exact (below_size HB.out))
              (case aL => have := LMc4.out; omega)
              intro v133 w17 ho hb hg hat
              rw [← Ny132.out] at ho
              have n0_ := mk (blk_grown (g := gb121) (o := .cells #[.slice A0_0 l0_0.length c0_0, .int .i64 a0_1] 24 (0, 0)) BK121.out hg (Kd.R_ne HO128.out BK121.out (by decide))); have n1_ := mk (blk_grown (g := gb122) (o := .cells #[.slice A1_0 l1_0.length c1_0, .int .i64 a1_1] 24 (0, 0)) BK122.out hg (Kd.R_ne HO128.out BK122.out (by decide))); have n2_ := mk (Kd.R_after (ok := (fun _ => True)) (by exact Kd.R_mono HO131.out (fun _ hk => ⟨trivial, hk⟩)) hg hat); have n3_ := mk (hb); have HO134 := mk (ho); clear HO128; replace BK121 := n0_; replace BK122 := n1_; replace HO131 := n2_; replace HB := n3_; clear n0_ n1_ n2_ n3_; clear ho hb hg hat
              refine hK.out _ _ ⟨(blk_cell BK121.out 0).trans rfl, (blk_cell BK121.out 1).trans rfl, (blk_cell BK122.out 0).trans rfl, (blk_cell BK122.out 1).trans rfl⟩ (fun hHeld => ?_)
              clear hK K
              refine norm_ (a' := ?_) ?_ ?_
              rotate_left
              · show Act.put _ (some 12) _ = _
                simp only [Act.put, List.setIfInBounds_toArray, List.set_cons_zero, List.set_cons_succ, i64_w, i32_w]
                rfl
              exact norm_ (by first | (simp only [putAll, Act.put, List.setIfInBounds_toArray, List.set_cons_zero, List.set_cons_succ]; done) | (simp only [putAll, Act.put, List.setIfInBounds_toArray, List.set_cons_zero, List.set_cons_succ]; rfl)) (hJ0_3_6_7 (v124, v127, .slice Ao18 y129.length co18, v133) _ ⟨hHeld, (by exact Kd.R_mono HO131.out (fun _ hk => hk.2)), HO134.out, BK121.out, BK122.out, HB.out⟩)
            · skip
              refine Kd.R_lit_step (Kd.int .i64) _ 3 ?hg (N := 13) ?hd (xs := ([] : List Int)) (inner := []) (ok := fun _ => True) (okp := fun _ => True) ?hr ?hp (fun _ hk => hk) trivial (Below.refl _ _) (Nat.le_refl _) (by simp) ?_; (case hd => rfl); (case hg => rfl); (case hr => first | (go_simp; done) | (go_simp; rfl)); (case hp => exact (Reps.none _ _))
              intro v136 w17 ho18 hb hg_ hnew_
              clear hg_ hnew_
              (first | rw [← Ny135.out] at ho18 | (simp only [Int.reduceToNat] at ho18; rw [← Ny135.out] at ho18))
              have n0_ := mk (Kd.R_elder' HO128.out (Kd.R_base ho18) hb); have n1_ := mk (Kd.R_elder' HO131.out (Kd.R_base ho18) hb); have HO137 := mk (Kd.R_lower (Kd.R_new' (Kd.R_new' ho18 (Kd.R_lt HO128.out)) (Kd.R_lt HO131.out)) (below_size HB.out)); have n3_ := mk (blk_below BK121.out hb); have n4_ := mk (blk_below BK122.out hb); have n5_ := mk (below_step HB.out hb); replace HO128 := n0_; replace HO131 := n1_; replace BK121 := n3_; replace BK122 := n4_; replace HB := n5_; clear n0_ n1_ n3_ n4_ n5_; clear hb ho18
              refine hK.out _ _ ⟨(blk_cell BK121.out 0).trans rfl, (blk_cell BK121.out 1).trans rfl, (blk_cell BK122.out 0).trans rfl, (blk_cell BK122.out 1).trans rfl⟩ (fun hHeld => ?_)
              clear hK K
              refine norm_ (a' := ?_) ?_ ?_
              rotate_left
              · show Act.put _ (some 13) _ = _
                simp only [Act.put, List.setIfInBounds_toArray, List.set_cons_zero, List.set_cons_succ, i64_w, i32_w]
                rfl
              exact norm_ (by first | (simp only [putAll, Act.put, List.setIfInBounds_toArray, List.set_cons_zero, List.set_cons_succ]; done) | (simp only [putAll, Act.put, List.setIfInBounds_toArray, List.set_cons_zero, List.set_cons_succ]; rfl)) (hJ0_3_6_8 (v124, v127, .slice Ao18 y129.length co18, v136) _ ⟨hHeld, HO128.out, HO131.out, (by exact Kd.R_mono HO137.out (fun _ hk => ⟨hk.1.2, hk.2⟩)), BK121.out, BK122.out, HB.out⟩)
            · skip
              refine Kd.R_lit_step (Kd.int .i64) _ 3 ?hg (N := 19) ?hd (xs := ([a1_1] : List Int)) (inner := [.int .i64 a1_1]) (ok := fun _ => True) (okp := fun _ => True) ?hr ?hp (fun _ hk => hk) trivial (Below.refl _ _) (Nat.le_refl _) (by simp) ?_; (case hd => rfl); (case hg => rfl); (case hr => first | (go_simp; done) | (go_simp; rfl)); (case hp => exact (Reps.one (show Kd.M (Kd.int .i64) _ _ _ a1_1 [.int .i64 a1_1] from rfl) (Reps.none _ _)))
              intro v142 w17 ho18 hb hg_ hnew_
              clear hg_ hnew_
              (first | rw [← Ny141.out] at ho18 | (simp only [Int.reduceToNat] at ho18; rw [← Ny141.out] at ho18))
              have n0_ := mk (Kd.R_elder' HO128.out (Kd.R_base ho18) hb); have n1_ := mk (Kd.R_elder' HO131.out (Kd.R_base ho18) hb); have HO143 := mk (Kd.R_lower (Kd.R_new' (Kd.R_new' ho18 (Kd.R_lt HO128.out)) (Kd.R_lt HO131.out)) (below_size HB.out)); have n3_ := mk (blk_below BK121.out hb); have n4_ := mk (blk_below BK122.out hb); have n5_ := mk (below_step HB.out hb); replace HO128 := n0_; replace HO131 := n1_; replace BK121 := n3_; replace BK122 := n4_; replace HB := n5_; clear n0_ n1_ n3_ n4_ n5_; clear hb ho18
              refine hK.out _ _ ⟨(blk_cell BK121.out 0).trans rfl, (blk_cell BK121.out 1).trans rfl, (blk_cell BK122.out 0).trans rfl, (blk_cell BK122.out 1).trans rfl⟩ (fun hHeld => ?_)
              clear hK K
              refine norm_ (a' := ?_) ?_ ?_
              rotate_left
              · show Act.put _ (some 19) _ = _
                simp only [Act.put, List.setIfInBounds_toArray, List.set_cons_zero, List.set_cons_succ, i64_w, i32_w]
                rfl
              exact norm_ (by first | (simp only [putAll, Act.put, List.setIfInBounds_toArray, List.set_cons_zero, List.set_cons_succ]; done) | (simp only [putAll, Act.put, List.setIfInBounds_toArray, List.set_cons_zero, List.set_cons_succ]; rfl)) (hJ0_3_6_14 (v124, v127, .slice Ao18 y129.length co18, v142) _ ⟨hHeld, HO128.out, HO131.out, (by exact Kd.R_mono HO143.out (fun _ hk => ⟨hk.1.2, hk.2⟩)), BK121.out, BK122.out, HB.out⟩)
          intro hJ0_3_6
          refine join_ (σ := Value × Value × Value) 7 #[true, true, true, true, true, true, false, false, true, true, true, false, true, true, false, false, false, false] (fun s_ => [(5, s_.1), (8, s_.2.1), (13, s_.2.2)]) (fun s_ w' => (w'.cell? ⟨gb121, 0, none⟩ = some (.slice A0_0 l0_0.length c0_0) ∧ w'.cell? ⟨gb121, 1, none⟩ = some (.int .i64 a0_1) ∧ w'.cell? ⟨gb122, 0, none⟩ = some (.slice A1_0 l1_0.length c1_0) ∧ w'.cell? ⟨gb122, 1, none⟩ = some (.int .i64 a1_1)) ∧ (Kd.R (Kd.int .i64) 3 w' w.heap.size (fun k_ => some k_ ≠ (s_.2.2 : Value).ownBlock) s_.2.1 y126) ∧ (Kd.R (Kd.int .i64) 3 w' w.heap.size (fun k_ => some k_ ≠ (s_.2.1 : Value).ownBlock) s_.2.2 y135) ∧ (w'.heap[gb121]? = some (.cells #[.slice A0_0 l0_0.length c0_0, .int .i64 a0_1] 24 (0, 0))) ∧ (w'.heap[gb122]? = some (.cells #[.slice A1_0 l1_0.length c1_0, .int .i64 a1_1] 24 (0, 0))) ∧ (Below w.heap.size w w')) ?_ ?_
          · skip
            rintro ⟨v124, v127, v136⟩ w16 ⟨hS_, h0_, h1_, h2_, h3_, h4_⟩
            have n0_ : Aside0 (Kd.R (Kd.int .i64) 3 w16 w.heap.size (fun k_ => some k_ ≠ (v136 : Value).ownBlock) v127 y126) := ⟨h0_⟩; have n1_ : Aside0 (Kd.R (Kd.int .i64) 3 w16 w.heap.size (fun k_ => some k_ ≠ (v127 : Value).ownBlock) v136 y135) := ⟨h1_⟩; have n2_ : Aside0 (w16.heap[gb121]? = some (.cells #[.slice A0_0 l0_0.length c0_0, .int .i64 a0_1] 24 (0, 0))) := ⟨h2_⟩; have n3_ : Aside0 (w16.heap[gb122]? = some (.cells #[.slice A1_0 l1_0.length c1_0, .int .i64 a1_1] 24 (0, 0))) := ⟨h3_⟩; have n4_ : Aside0 (Below w.heap.size w w16) := ⟨h4_⟩; clear BK121; clear BK122; clear HB; clear h0_ h1_ h2_ h3_ h4_; have HO128 := n0_; have HO137 := n1_; have BK121 := n2_; have BK122 := n3_; have HB := n4_; clear n0_ n1_ n2_ n3_ n4_
            have hHeld : w16.cell? ⟨gb121, 0, none⟩ = some (.slice A0_0 l0_0.length c0_0) ∧ w16.cell? ⟨gb121, 1, none⟩ = some (.int .i64 a0_1) ∧ w16.cell? ⟨gb122, 0, none⟩ = some (.slice A1_0 l1_0.length c1_0) ∧ w16.cell? ⟨gb122, 1, none⟩ = some (.int .i64 a1_1) := hS_
            refine norm_ (a' := ?_) ?_ ?_
            rotate_left
            · simp only [putAll, Act.put, List.setIfInBounds_toArray, List.set_cons_zero, List.set_cons_succ]
              rfl
            refine two_ (i := 6) (j := 14) (Ni := some 11) (Nj := some 19) #[true, true, true, true, true, true, true, false, true, true, true, false, true, true, false, false, false, false] #[true, true, true, true, true, true, false, false, true, true, true, false, true, true, true, false, false, false] rfl rfl rfl rfl (two_of HT_.out (by kernel_rfl)) (by decide) (by decide) (fun K hK => ?_) (fun K hK => ?_)
            · skip
              refine Kd.R_lit_step (Kd.int .i64) _ 3 ?hg (N := 11) ?hd (xs := ([a0_1] : List Int)) (inner := [.int .i64 a0_1]) (ok := fun _ => True) (okp := fun _ => True) ?hr ?hp (fun _ hk => hk) trivial (Below.refl _ _) (Nat.le_refl _) (by simp) ?_; (case hd => rfl); (case hg => rfl); (case hr => first | (go_simp; done) | (go_simp; rfl)); (case hp => exact (Reps.one (show Kd.M (Kd.int .i64) _ _ _ a0_1 [.int .i64 a0_1] from rfl) (Reps.none _ _)))
              intro v130 w17 ho18 hb hg_ hnew_
              clear hg_ hnew_
              (first | rw [← Ny129.out] at ho18 | (simp only [Int.reduceToNat] at ho18; rw [← Ny129.out] at ho18))
              have n0_ := mk (Kd.R_elder' HO128.out (Kd.R_base ho18) hb); have n1_ := mk (Kd.R_elder' HO137.out (Kd.R_base ho18) hb); have HO131 := mk (Kd.R_lower (Kd.R_new' (Kd.R_new' ho18 (Kd.R_lt HO128.out)) (Kd.R_lt HO137.out)) (below_size HB.out)); have n3_ := mk (blk_below BK121.out hb); have n4_ := mk (blk_below BK122.out hb); have n5_ := mk (below_step HB.out hb); replace HO128 := n0_; replace HO137 := n1_; replace BK121 := n3_; replace BK122 := n4_; replace HB := n5_; clear n0_ n1_ n3_ n4_ n5_; clear hb ho18
              refine hK.out _ _ ⟨(blk_cell BK121.out 0).trans rfl, (blk_cell BK121.out 1).trans rfl, (blk_cell BK122.out 0).trans rfl, (blk_cell BK122.out 1).trans rfl⟩ (fun hHeld => ?_)
              clear hK K
              refine norm_ (a' := ?_) ?_ ?_
              rotate_left
              · show Act.put _ (some 11) _ = _
                simp only [Act.put, List.setIfInBounds_toArray, List.set_cons_zero, List.set_cons_succ, i64_w, i32_w]
                rfl
              exact norm_ (by first | (simp only [putAll, Act.put, List.setIfInBounds_toArray, List.set_cons_zero, List.set_cons_succ]; done) | (simp only [putAll, Act.put, List.setIfInBounds_toArray, List.set_cons_zero, List.set_cons_succ]; rfl)) (hJ0_3_6_8 (v124, v127, v130, v136) _ ⟨hHeld, (by exact Kd.R_mono HO128.out (fun _ hk => ⟨hk.2, hk.1⟩)), (by exact Kd.R_mono HO131.out (fun _ hk => ⟨hk.1.2, hk.2⟩)), HO137.out, BK121.out, BK122.out, HB.out⟩)
            · skip
              refine Kd.R_lit_step (Kd.int .i64) _ 3 ?hg (N := 19) ?hd (xs := ([a1_1] : List Int)) (inner := [.int .i64 a1_1]) (ok := fun _ => True) (okp := fun _ => True) ?hr ?hp (fun _ hk => hk) trivial (Below.refl _ _) (Nat.le_refl _) (by simp) ?_; (case hd => rfl); (case hg => rfl); (case hr => first | (go_simp; done) | (go_simp; rfl)); (case hp => exact (Reps.one (show Kd.M (Kd.int .i64) _ _ _ a1_1 [.int .i64 a1_1] from rfl) (Reps.none _ _)))
              intro v142 w17 ho18 hb hg_ hnew_
              clear hg_ hnew_
              (first | rw [← Ny141.out] at ho18 | (simp only [Int.reduceToNat] at ho18; rw [← Ny141.out] at ho18))
              have n0_ := mk (Kd.R_elder' HO128.out (Kd.R_base ho18) hb); have n1_ := mk (Kd.R_elder' HO137.out (Kd.R_base ho18) hb); have HO143 := mk (Kd.R_lower (Kd.R_new' (Kd.R_new' ho18 (Kd.R_lt HO128.out)) (Kd.R_lt HO137.out)) (below_size HB.out)); have n3_ := mk (blk_below BK121.out hb); have n4_ := mk (blk_below BK122.out hb); have n5_ := mk (below_step HB.out hb); replace HO128 := n0_; replace HO137 := n1_; replace BK121 := n3_; replace BK122 := n4_; replace HB := n5_; clear n0_ n1_ n3_ n4_ n5_; clear hb ho18
              refine hK.out _ _ ⟨(blk_cell BK121.out 0).trans rfl, (blk_cell BK121.out 1).trans rfl, (blk_cell BK122.out 0).trans rfl, (blk_cell BK122.out 1).trans rfl⟩ (fun hHeld => ?_)
              clear hK K
              refine norm_ (a' := ?_) ?_ ?_
              rotate_left
              · show Act.put _ (some 19) _ = _
                simp only [Act.put, List.setIfInBounds_toArray, List.set_cons_zero, List.set_cons_succ, i64_w, i32_w]
                rfl
              exact norm_ (by first | (simp only [putAll, Act.put, List.setIfInBounds_toArray, List.set_cons_zero, List.set_cons_succ]; done) | (simp only [putAll, Act.put, List.setIfInBounds_toArray, List.set_cons_zero, List.set_cons_succ]; rfl)) (hJ0_3_8_14 (v124, v127, v136, v142) _ ⟨hHeld, HO128.out, HO137.out, (by exact Kd.R_mono HO143.out (fun _ hk => ⟨hk.1.2, hk.2⟩)), BK121.out, BK122.out, HB.out⟩)
          intro hJ0_3_8
          refine join_ (σ := Value × Value × Value) 7 #[true, true, true, true, true, true, false, false, false, true, true, false, true, true, true, false, false, false] (fun s_ => [(5, s_.1), (8, s_.2.1), (19, s_.2.2)]) (fun s_ w' => (w'.cell? ⟨gb121, 0, none⟩ = some (.slice A0_0 l0_0.length c0_0) ∧ w'.cell? ⟨gb121, 1, none⟩ = some (.int .i64 a0_1) ∧ w'.cell? ⟨gb122, 0, none⟩ = some (.slice A1_0 l1_0.length c1_0) ∧ w'.cell? ⟨gb122, 1, none⟩ = some (.int .i64 a1_1)) ∧ (Kd.R (Kd.int .i64) 3 w' w.heap.size (fun k_ => some k_ ≠ (s_.2.2 : Value).ownBlock) s_.2.1 y126) ∧ (Kd.R (Kd.int .i64) 3 w' w.heap.size (fun k_ => some k_ ≠ (s_.2.1 : Value).ownBlock) s_.2.2 y141) ∧ (w'.heap[gb121]? = some (.cells #[.slice A0_0 l0_0.length c0_0, .int .i64 a0_1] 24 (0, 0))) ∧ (w'.heap[gb122]? = some (.cells #[.slice A1_0 l1_0.length c1_0, .int .i64 a1_1] 24 (0, 0))) ∧ (Below w.heap.size w w')) ?_ ?_
          · skip
            rintro ⟨v124, v127, v142⟩ w16 ⟨hS_, h0_, h1_, h2_, h3_, h4_⟩
            have n0_ : Aside0 (Kd.R (Kd.int .i64) 3 w16 w.heap.size (fun k_ => some k_ ≠ (v142 : Value).ownBlock) v127 y126) := ⟨h0_⟩; have n1_ : Aside0 (Kd.R (Kd.int .i64) 3 w16 w.heap.size (fun k_ => some k_ ≠ (v127 : Value).ownBlock) v142 y141) := ⟨h1_⟩; have n2_ : Aside0 (w16.heap[gb121]? = some (.cells #[.slice A0_0 l0_0.length c0_0, .int .i64 a0_1] 24 (0, 0))) := ⟨h2_⟩; have n3_ : Aside0 (w16.heap[gb122]? = some (.cells #[.slice A1_0 l1_0.length c1_0, .int .i64 a1_1] 24 (0, 0))) := ⟨h3_⟩; have n4_ : Aside0 (Below w.heap.size w w16) := ⟨h4_⟩; clear BK121; clear BK122; clear HB; clear h0_ h1_ h2_ h3_ h4_; have HO128 := n0_; have HO143 := n1_; have BK121 := n2_; have BK122 := n3_; have HB := n4_; clear n0_ n1_ n2_ n3_ n4_
            have hHeld : w16.cell? ⟨gb121, 0, none⟩ = some (.slice A0_0 l0_0.length c0_0) ∧ w16.cell? ⟨gb121, 1, none⟩ = some (.int .i64 a0_1) ∧ w16.cell? ⟨gb122, 0, none⟩ = some (.slice A1_0 l1_0.length c1_0) ∧ w16.cell? ⟨gb122, 1, none⟩ = some (.int .i64 a1_1) := hS_
            refine norm_ (a' := ?_) ?_ ?_
            rotate_left
            · simp only [putAll, Act.put, List.setIfInBounds_toArray, List.set_cons_zero, List.set_cons_succ]
              rfl
            refine two_ (i := 6) (j := 8) (Ni := some 11) (Nj := some 13) #[true, true, true, true, true, true, true, false, false, true, true, false, true, true, true, false, false, false] #[true, true, true, true, true, true, false, false, true, true, true, false, true, true, true, false, false, false] rfl rfl rfl rfl (two_of HT_.out (by kernel_rfl)) (by decide) (by decide) (fun K hK => ?_) (fun K hK => ?_)
            · skip
              refine Kd.R_lit_step (Kd.int .i64) _ 3 ?hg (N := 11) ?hd (xs := ([a0_1] : List Int)) (inner := [.int .i64 a0_1]) (ok := fun _ => True) (okp := fun _ => True) ?hr ?hp (fun _ hk => hk) trivial (Below.refl _ _) (Nat.le_refl _) (by simp) ?_; (case hd => rfl); (case hg => rfl); (case hr => first | (go_simp; done) | (go_simp; rfl)); (case hp => exact (Reps.one (show Kd.M (Kd.int .i64) _ _ _ a0_1 [.int .i64 a0_1] from rfl) (Reps.none _ _)))
              intro v130 w17 ho18 hb hg_ hnew_
              clear hg_ hnew_
              (first | rw [← Ny129.out] at ho18 | (simp only [Int.reduceToNat] at ho18; rw [← Ny129.out] at ho18))
              have n0_ := mk (Kd.R_elder' HO128.out (Kd.R_base ho18) hb); have n1_ := mk (Kd.R_elder' HO143.out (Kd.R_base ho18) hb); have HO131 := mk (Kd.R_lower (Kd.R_new' (Kd.R_new' ho18 (Kd.R_lt HO128.out)) (Kd.R_lt HO143.out)) (below_size HB.out)); have n3_ := mk (blk_below BK121.out hb); have n4_ := mk (blk_below BK122.out hb); have n5_ := mk (below_step HB.out hb); replace HO128 := n0_; replace HO143 := n1_; replace BK121 := n3_; replace BK122 := n4_; replace HB := n5_; clear n0_ n1_ n3_ n4_ n5_; clear hb ho18
              refine hK.out _ _ ⟨(blk_cell BK121.out 0).trans rfl, (blk_cell BK121.out 1).trans rfl, (blk_cell BK122.out 0).trans rfl, (blk_cell BK122.out 1).trans rfl⟩ (fun hHeld => ?_)
              clear hK K
              refine norm_ (a' := ?_) ?_ ?_
              rotate_left
              · show Act.put _ (some 11) _ = _
                simp only [Act.put, List.setIfInBounds_toArray, List.set_cons_zero, List.set_cons_succ, i64_w, i32_w]
                rfl
              exact norm_ (by first | (simp only [putAll, Act.put, List.setIfInBounds_toArray, List.set_cons_zero, List.set_cons_succ]; done) | (simp only [putAll, Act.put, List.setIfInBounds_toArray, List.set_cons_zero, List.set_cons_succ]; rfl)) (hJ0_3_6_14 (v124, v127, v130, v142) _ ⟨hHeld, (by exact Kd.R_mono HO128.out (fun _ hk => ⟨hk.2, hk.1⟩)), (by exact Kd.R_mono HO131.out (fun _ hk => ⟨hk.1.2, hk.2⟩)), HO143.out, BK121.out, BK122.out, HB.out⟩)
            · skip
              refine Kd.R_lit_step (Kd.int .i64) _ 3 ?hg (N := 13) ?hd (xs := ([] : List Int)) (inner := []) (ok := fun _ => True) (okp := fun _ => True) ?hr ?hp (fun _ hk => hk) trivial (Below.refl _ _) (Nat.le_refl _) (by simp) ?_; (case hd => rfl); (case hg => rfl); (case hr => first | (go_simp; done) | (go_simp; rfl)); (case hp => exact (Reps.none _ _))
              intro v136 w17 ho18 hb hg_ hnew_
              clear hg_ hnew_
              (first | rw [← Ny135.out] at ho18 | (simp only [Int.reduceToNat] at ho18; rw [← Ny135.out] at ho18))
              have n0_ := mk (Kd.R_elder' HO128.out (Kd.R_base ho18) hb); have n1_ := mk (Kd.R_elder' HO143.out (Kd.R_base ho18) hb); have HO137 := mk (Kd.R_lower (Kd.R_new' (Kd.R_new' ho18 (Kd.R_lt HO128.out)) (Kd.R_lt HO143.out)) (below_size HB.out)); have n3_ := mk (blk_below BK121.out hb); have n4_ := mk (blk_below BK122.out hb); have n5_ := mk (below_step HB.out hb); replace HO128 := n0_; replace HO143 := n1_; replace BK121 := n3_; replace BK122 := n4_; replace HB := n5_; clear n0_ n1_ n3_ n4_ n5_; clear hb ho18
              refine hK.out _ _ ⟨(blk_cell BK121.out 0).trans rfl, (blk_cell BK121.out 1).trans rfl, (blk_cell BK122.out 0).trans rfl, (blk_cell BK122.out 1).trans rfl⟩ (fun hHeld => ?_)
              clear hK K
              refine norm_ (a' := ?_) ?_ ?_
              rotate_left
              · show Act.put _ (some 13) _ = _
                simp only [Act.put, List.setIfInBounds_toArray, List.set_cons_zero, List.set_cons_succ, i64_w, i32_w]
                rfl
              exact norm_ (by first | (simp only [putAll, Act.put, List.setIfInBounds_toArray, List.set_cons_zero, List.set_cons_succ]; done) | (simp only [putAll, Act.put, List.setIfInBounds_toArray, List.set_cons_zero, List.set_cons_succ]; rfl)) (hJ0_3_8_14 (v124, v127, v136, v142) _ ⟨hHeld, (by exact Kd.R_mono HO128.out (fun _ hk => ⟨hk.2, hk.1⟩)), (by exact Kd.R_mono HO137.out (fun _ hk => ⟨hk.1.2, hk.2⟩)), HO143.out, BK121.out, BK122.out, HB.out⟩)
          intro hJ0_3_14
          refine join_ (σ := Value × Value × Value) 7 #[true, true, true, false, true, true, true, false, true, true, true, false, true, true, false, false, false, false] (fun s_ => [(5, s_.1), (11, s_.2.1), (13, s_.2.2)]) (fun s_ w' => (w'.cell? ⟨gb121, 0, none⟩ = some (.slice A0_0 l0_0.length c0_0) ∧ w'.cell? ⟨gb121, 1, none⟩ = some (.int .i64 a0_1) ∧ w'.cell? ⟨gb122, 0, none⟩ = some (.slice A1_0 l1_0.length c1_0) ∧ w'.cell? ⟨gb122, 1, none⟩ = some (.int .i64 a1_1)) ∧ (Kd.R (Kd.int .i64) 3 w' w.heap.size (fun k_ => some k_ ≠ (s_.2.1 : Value).ownBlock ∧ some k_ ≠ (s_.2.2 : Value).ownBlock) s_.1 y123) ∧ (Kd.R (Kd.int .i64) 3 w' w.heap.size (fun k_ => some k_ ≠ (s_.1 : Value).ownBlock ∧ some k_ ≠ (s_.2.2 : Value).ownBlock) s_.2.1 y129) ∧ (Kd.R (Kd.int .i64) 3 w' w.heap.size (fun k_ => some k_ ≠ (s_.1 : Value).ownBlock ∧ some k_ ≠ (s_.2.1 : Value).ownBlock) s_.2.2 y135) ∧ (w'.heap[gb121]? = some (.cells #[.slice A0_0 l0_0.length c0_0, .int .i64 a0_1] 24 (0, 0))) ∧ (w'.heap[gb122]? = some (.cells #[.slice A1_0 l1_0.length c1_0, .int .i64 a1_1] 24 (0, 0))) ∧ (Below w.heap.size w w')) ?_ ?_
          · skip
            rintro ⟨v124, v130, v136⟩ w17 ⟨hS_, h0_, h1_, h2_, h3_, h4_, h5_⟩
            have n0_ : Aside0 (Kd.R (Kd.int .i64) 3 w17 w.heap.size (fun k_ => some k_ ≠ (v130 : Value).ownBlock ∧ some k_ ≠ (v136 : Value).ownBlock) v124 y123) := ⟨h0_⟩; have n1_ : Aside0 (Kd.R (Kd.int .i64) 3 w17 w.heap.size (fun k_ => some k_ ≠ (v124 : Value).ownBlock ∧ some k_ ≠ (v136 : Value).ownBlock) v130 y129) := ⟨h1_⟩; have n2_ : Aside0 (Kd.R (Kd.int .i64) 3 w17 w.heap.size (fun k_ => some k_ ≠ (v124 : Value).ownBlock ∧ some k_ ≠ (v130 : Value).ownBlock) v136 y135) := ⟨h2_⟩; have n3_ : Aside0 (w17.heap[gb121]? = some (.cells #[.slice A0_0 l0_0.length c0_0, .int .i64 a0_1] 24 (0, 0))) := ⟨h3_⟩; have n4_ : Aside0 (w17.heap[gb122]? = some (.cells #[.slice A1_0 l1_0.length c1_0, .int .i64 a1_1] 24 (0, 0))) := ⟨h4_⟩; have n5_ : Aside0 (Below w.heap.size w w17) := ⟨h5_⟩; clear BK121; clear BK122; clear HB; clear h0_ h1_ h2_ h3_ h4_ h5_; have HO125 := n0_; have HO131 := n1_; have HO137 := n2_; have BK121 := n3_; have BK122 := n4_; have HB := n5_; clear n0_ n1_ n2_ n3_ n4_ n5_
            have hHeld : w17.cell? ⟨gb121, 0, none⟩ = some (.slice A0_0 l0_0.length c0_0) ∧ w17.cell? ⟨gb121, 1, none⟩ = some (.int .i64 a0_1) ∧ w17.cell? ⟨gb122, 0, none⟩ = some (.slice A1_0 l1_0.length c1_0) ∧ w17.cell? ⟨gb122, 1, none⟩ = some (.int .i64 a1_1) := hS_
            refine norm_ (a' := ?_) ?_ ?_
            rotate_left
            · simp only [putAll, Act.put, List.setIfInBounds_toArray, List.set_cons_zero, List.set_cons_succ]
              rfl
            refine two_ (i := 3) (j := 14) (Ni := some 8) (Nj := some 19) #[true, true, true, true, true, true, true, false, true, true, true, false, true, true, false, false, false, false] #[true, true, true, false, true, true, true, false, true, true, true, false, true, true, true, false, false, false] rfl rfl rfl rfl (two_of HT_.out (by kernel_rfl)) (by decide) (by decide) (fun K hK => ?_) (fun K hK => ?_)
            · skip
              refine Kd.R_append_rows_step (Kd.int .i64) (w0 := w) w.heap.size (by rfl) (.tmp 5) (.tmp 7) 22 3 (.int .i64 0) 8 rfl Try.underlying22 info3 rfl (by decide) (by omega) v124 y123 l0_0 _ _ _ (fun k_ => some k_ ≠ (v130 : Value).ownBlock ∧ some k_ ≠ (v136 : Value).ownBlock) (fun _ => False) rfl rfl ?aO ?aR (fun _ _ h => h) (fun _ h => h.elim) ?aF ?aB ?aS ?aL ?_
              (case aR => repeat (first | exact (Kd.C_below HR0_0.out HB.out) | (with_reducible refine Kd.C_alloc ?_ _) | (with_reducible refine Kd.C_drewN ?_ _) | (with_reducible refine Kd.C_drew ?_)))
              (case aB => exact HB.out)
              (case aF => exact (fun k_ hk => ⟨Kd.fresh' (Kd.R_lt HO131.out) k_ hk, Kd.fresh' (Kd.R_lt HO137.out) k_ hk⟩))
              (case aO => exact HO125.out)
              (case aS => exact (below_size HB.out))
              (case aL => have := LMc3.out; omega)
              intro v127 w18 ho hb hg hat
              rw [← Ny126.out] at ho
              have n0_ := mk (blk_grown (g := gb121) (o := .cells #[.slice A0_0 l0_0.length c0_0, .int .i64 a0_1] 24 (0, 0)) BK121.out hg (Kd.R_ne HO125.out BK121.out (by decide))); have n1_ := mk (blk_grown (g := gb122) (o := .cells #[.slice A1_0 l1_0.length c1_0, .int .i64 a1_1] 24 (0, 0)) BK122.out hg (Kd.R_ne HO125.out BK122.out (by decide))); have n2_ := mk (Kd.R_after (ok := (fun k_ => some k_ ≠ (v136 : Value).ownBlock)) (by exact Kd.R_mono HO131.out (fun _ hk => ⟨hk.2, hk.1⟩)) hg hat); have n3_ := mk (Kd.R_after (ok := (fun k_ => some k_ ≠ (v130 : Value).ownBlock)) (by exact Kd.R_mono HO137.out (fun _ hk => ⟨hk.2, hk.1⟩)) hg hat); have n4_ := mk (hb); have HO128 := mk (ho); clear HO125; replace BK121 := n0_; replace BK122 := n1_; replace HO131 := n2_; replace HO137 := n3_; replace HB := n4_; clear n0_ n1_ n2_ n3_ n4_; clear ho hb hg hat
              refine hK.out _ _ ⟨(blk_cell BK121.out 0).trans rfl, (blk_cell BK121.out 1).trans rfl, (blk_cell BK122.out 0).trans rfl, (blk_cell BK122.out 1).trans rfl⟩ (fun hHeld => ?_)
              clear hK K
              refine norm_ (a' := ?_) ?_ ?_
              rotate_left
              · show Act.put _ (some 8) _ = _
                simp only [Act.put, List.setIfInBounds_toArray, List.set_cons_zero, List.set_cons_succ, i64_w, i32_w]
                rfl
              exact norm_ (by first | (simp only [putAll, Act.put, List.setIfInBounds_toArray, List.set_cons_zero, List.set_cons_succ]; done) | (simp only [putAll, Act.put, List.setIfInBounds_toArray, List.set_cons_zero, List.set_cons_succ]; rfl)) (hJ0_3_6_8 (v124, v127, v130, v136) _ ⟨hHeld, HO128.out, (by exact Kd.R_mono HO131.out (fun _ hk => ⟨hk.2, hk.1⟩)), (by exact Kd.R_mono HO137.out (fun _ hk => ⟨hk.2, hk.1⟩)), BK121.out, BK122.out, HB.out⟩)
            · skip
              refine Kd.R_lit_step (Kd.int .i64) _ 3 ?hg (N := 19) ?hd (xs := ([a1_1] : List Int)) (inner := [.int .i64 a1_1]) (ok := fun _ => True) (okp := fun _ => True) ?hr ?hp (fun _ hk => hk) trivial (Below.refl _ _) (Nat.le_refl _) (by simp) ?_; (case hd => rfl); (case hg => rfl); (case hr => first | (go_simp; done) | (go_simp; rfl)); (case hp => exact (Reps.one (show Kd.M (Kd.int .i64) _ _ _ a1_1 [.int .i64 a1_1] from rfl) (Reps.none _ _)))
              intro v142 w18 ho19 hb hg_ hnew_
              clear hg_ hnew_
              (first | rw [← Ny141.out] at ho19 | (simp only [Int.reduceToNat] at ho19; rw [← Ny141.out] at ho19))
              have n0_ := mk (Kd.R_elder' HO125.out (Kd.R_base ho19) hb); have n1_ := mk (Kd.R_elder' HO131.out (Kd.R_base ho19) hb); have n2_ := mk (Kd.R_elder' HO137.out (Kd.R_base ho19) hb); have HO143 := mk (Kd.R_lower (Kd.R_new' (Kd.R_new' (Kd.R_new' ho19 (Kd.R_lt HO125.out)) (Kd.R_lt HO131.out)) (Kd.R_lt HO137.out)) (below_size HB.out)); have n4_ := mk (blk_below BK121.out hb); have n5_ := mk (blk_below BK122.out hb); have n6_ := mk (below_step HB.out hb); replace HO125 := n0_; replace HO131 := n1_; replace HO137 := n2_; replace BK121 := n4_; replace BK122 := n5_; replace HB := n6_; clear n0_ n1_ n2_ n4_ n5_ n6_; clear hb ho19
              refine hK.out _ _ ⟨(blk_cell BK121.out 0).trans rfl, (blk_cell BK121.out 1).trans rfl, (blk_cell BK122.out 0).trans rfl, (blk_cell BK122.out 1).trans rfl⟩ (fun hHeld => ?_)
              clear hK K
              refine norm_ (a' := ?_) ?_ ?_
              rotate_left
              · show Act.put _ (some 19) _ = _
                simp only [Act.put, List.setIfInBounds_toArray, List.set_cons_zero, List.set_cons_succ, i64_w, i32_w]
                rfl
              exact norm_ (by first | (simp only [putAll, Act.put, List.setIfInBounds_toArray, List.set_cons_zero, List.set_cons_succ]; done) | (simp only [putAll, Act.put, List.setIfInBounds_toArray, List.set_cons_zero, List.set_cons_succ]; rfl)) (hJ0_6_8_14 (v124, v130, v136, v142) _ ⟨hHeld, (by exact Kd.R_mono HO125.out (fun _ hk => ⟨hk.1.1, ⟨hk.1.2, hk.2⟩⟩)), (by exact Kd.R_mono HO131.out (fun _ hk => ⟨hk.1.1, ⟨hk.1.2, hk.2⟩⟩)), (by exact Kd.R_mono HO137.out (fun _ hk => ⟨hk.1.1, ⟨hk.1.2, hk.2⟩⟩)), (by exact Kd.R_mono HO143.out (fun _ hk => ⟨hk.1.1.2, ⟨hk.1.2, hk.2⟩⟩)), BK121.out, BK122.out, HB.out⟩)
          intro hJ0_6_8
          refine join_ (σ := Value × Value × Value) 7 #[true, true, true, false, true, true, true, false, false, true, true, false, true, true, true, false, false, false] (fun s_ => [(5, s_.1), (11, s_.2.1), (19, s_.2.2)]) (fun s_ w' => (w'.cell? ⟨gb121, 0, none⟩ = some (.slice A0_0 l0_0.length c0_0) ∧ w'.cell? ⟨gb121, 1, none⟩ = some (.int .i64 a0_1) ∧ w'.cell? ⟨gb122, 0, none⟩ = some (.slice A1_0 l1_0.length c1_0) ∧ w'.cell? ⟨gb122, 1, none⟩ = some (.int .i64 a1_1)) ∧ (Kd.R (Kd.int .i64) 3 w' w.heap.size (fun k_ => some k_ ≠ (s_.2.1 : Value).ownBlock ∧ some k_ ≠ (s_.2.2 : Value).ownBlock) s_.1 y123) ∧ (Kd.R (Kd.int .i64) 3 w' w.heap.size (fun k_ => some k_ ≠ (s_.1 : Value).ownBlock ∧ some k_ ≠ (s_.2.2 : Value).ownBlock) s_.2.1 y129) ∧ (Kd.R (Kd.int .i64) 3 w' w.heap.size (fun k_ => some k_ ≠ (s_.1 : Value).ownBlock ∧ some k_ ≠ (s_.2.1 : Value).ownBlock) s_.2.2 y141) ∧ (w'.heap[gb121]? = some (.cells #[.slice A0_0 l0_0.length c0_0, .int .i64 a0_1] 24 (0, 0))) ∧ (w'.heap[gb122]? = some (.cells #[.slice A1_0 l1_0.length c1_0, .int .i64 a1_1] 24 (0, 0))) ∧ (Below w.heap.size w w')) ?_ ?_
          · skip
            rintro ⟨v124, v130, v142⟩ w17 ⟨hS_, h0_, h1_, h2_, h3_, h4_, h5_⟩
            have n0_ : Aside0 (Kd.R (Kd.int .i64) 3 w17 w.heap.size (fun k_ => some k_ ≠ (v130 : Value).ownBlock ∧ some k_ ≠ (v142 : Value).ownBlock) v124 y123) := ⟨h0_⟩; have n1_ : Aside0 (Kd.R (Kd.int .i64) 3 w17 w.heap.size (fun k_ => some k_ ≠ (v124 : Value).ownBlock ∧ some k_ ≠ (v142 : Value).ownBlock) v130 y129) := ⟨h1_⟩; have n2_ : Aside0 (Kd.R (Kd.int .i64) 3 w17 w.heap.size (fun k_ => some k_ ≠ (v124 : Value).ownBlock ∧ some k_ ≠ (v130 : Value).ownBlock) v142 y141) := ⟨h2_⟩; have n3_ : Aside0 (w17.heap[gb121]? = some (.cells #[.slice A0_0 l0_0.length c0_0, .int .i64 a0_1] 24 (0, 0))) := ⟨h3_⟩; have n4_ : Aside0 (w17.heap[gb122]? = some (.cells #[.slice A1_0 l1_0.length c1_0, .int .i64 a1_1] 24 (0, 0))) := ⟨h4_⟩; have n5_ : Aside0 (Below w.heap.size w w17) := ⟨h5_⟩; clear BK121; clear BK122; clear HB; clear h0_ h1_ h2_ h3_ h4_ h5_; have HO125 := n0_; have HO131 := n1_; have HO143 := n2_; have BK121 := n3_; have BK122 := n4_; have HB := n5_; clear n0_ n1_ n2_ n3_ n4_ n5_
            have hHeld : w17.cell? ⟨gb121, 0, none⟩ = some (.slice A0_0 l0_0.length c0_0) ∧ w17.cell? ⟨gb121, 1, none⟩ = some (.int .i64 a0_1) ∧ w17.cell? ⟨gb122, 0, none⟩ = some (.slice A1_0 l1_0.length c1_0) ∧ w17.cell? ⟨gb122, 1, none⟩ = some (.int .i64 a1_1) := hS_
            refine norm_ (a' := ?_) ?_ ?_
            rotate_left
            · simp only [putAll, Act.put, List.setIfInBounds_toArray, List.set_cons_zero, List.set_cons_succ]
              rfl
            refine two_ (i := 3) (j := 8) (Ni := some 8) (Nj := some 13) #[true, true, true, true, true, true, true, false, false, true, true, false, true, true, true, false, false, false] #[true, true, true, false, true, true, true, false, true, true, true, false, true, true, true, false, false, false] rfl rfl rfl rfl (two_of HT_.out (by kernel_rfl)) (by decide) (by decide) (fun K hK => ?_) (fun K hK => ?_)
            · skip
              refine Kd.R_append_rows_step (Kd.int .i64) (w0 := w) w.heap.size (by rfl) (.tmp 5) (.tmp 7) 22 3 (.int .i64 0) 8 rfl Try.underlying22 info3 rfl (by decide) (by omega) v124 y123 l0_0 _ _ _ (fun k_ => some k_ ≠ (v130 : Value).ownBlock ∧ some k_ ≠ (v142 : Value).ownBlock) (fun _ => False) rfl rfl ?aO ?aR (fun _ _ h => h) (fun _ h => h.elim) ?aF ?aB ?aS ?aL ?_
              (case aR => repeat (first | exact (Kd.C_below HR0_0.out HB.out) | (with_reducible refine Kd.C_alloc ?_ _) | (with_reducible refine Kd.C_drewN ?_ _) | (with_reducible refine Kd.C_drew ?_)))
              (case aB => exact HB.out)
              (case aF => exact (fun k_ hk => ⟨Kd.fresh' (Kd.R_lt HO131.out) k_ hk, Kd.fresh' (Kd.R_lt HO143.out) k_ hk⟩))
              (case aO => exact HO125.out)
              (case aS => exact (below_size HB.out))
              (case aL => have := LMc3.out; omega)
              intro v127 w18 ho hb hg hat
              rw [← Ny126.out] at ho
              have n0_ := mk (blk_grown (g := gb121) (o := .cells #[.slice A0_0 l0_0.length c0_0, .int .i64 a0_1] 24 (0, 0)) BK121.out hg (Kd.R_ne HO125.out BK121.out (by decide))); have n1_ := mk (blk_grown (g := gb122) (o := .cells #[.slice A1_0 l1_0.length c1_0, .int .i64 a1_1] 24 (0, 0)) BK122.out hg (Kd.R_ne HO125.out BK122.out (by decide))); have n2_ := mk (Kd.R_after (ok := (fun k_ => some k_ ≠ (v142 : Value).ownBlock)) (by exact Kd.R_mono HO131.out (fun _ hk => ⟨hk.2, hk.1⟩)) hg hat); have n3_ := mk (Kd.R_after (ok := (fun k_ => some k_ ≠ (v130 : Value).ownBlock)) (by exact Kd.R_mono HO143.out (fun _ hk => ⟨hk.2, hk.1⟩)) hg hat); have n4_ := mk (hb); have HO128 := mk (ho); clear HO125; replace BK121 := n0_; replace BK122 := n1_; replace HO131 := n2_; replace HO143 := n3_; replace HB := n4_; clear n0_ n1_ n2_ n3_ n4_; clear ho hb hg hat
              refine hK.out _ _ ⟨(blk_cell BK121.out 0).trans rfl, (blk_cell BK121.out 1).trans rfl, (blk_cell BK122.out 0).trans rfl, (blk_cell BK122.out 1).trans rfl⟩ (fun hHeld => ?_)
              clear hK K
              refine norm_ (a' := ?_) ?_ ?_
              rotate_left
              · show Act.put _ (some 8) _ = _
                simp only [Act.put, List.setIfInBounds_toArray, List.set_cons_zero, List.set_cons_succ, i64_w, i32_w]
                rfl
              exact norm_ (by first | (simp only [putAll, Act.put, List.setIfInBounds_toArray, List.set_cons_zero, List.set_cons_succ]; done) | (simp only [putAll, Act.put, List.setIfInBounds_toArray, List.set_cons_zero, List.set_cons_succ]; rfl)) (hJ0_3_6_14 (v124, v127, v130, v142) _ ⟨hHeld, HO128.out, (by exact Kd.R_mono HO131.out (fun _ hk => ⟨hk.2, hk.1⟩)), (by exact Kd.R_mono HO143.out (fun _ hk => ⟨hk.2, hk.1⟩)), BK121.out, BK122.out, HB.out⟩)
            · skip
              refine Kd.R_lit_step (Kd.int .i64) _ 3 ?hg (N := 13) ?hd (xs := ([] : List Int)) (inner := []) (ok := fun _ => True) (okp := fun _ => True) ?hr ?hp (fun _ hk => hk) trivial (Below.refl _ _) (Nat.le_refl _) (by simp) ?_; (case hd => rfl); (case hg => rfl); (case hr => first | (go_simp; done) | (go_simp; rfl)); (case hp => exact (Reps.none _ _))
              intro v136 w18 ho19 hb hg_ hnew_
              clear hg_ hnew_
              (first | rw [← Ny135.out] at ho19 | (simp only [Int.reduceToNat] at ho19; rw [← Ny135.out] at ho19))
              have n0_ := mk (Kd.R_elder' HO125.out (Kd.R_base ho19) hb); have n1_ := mk (Kd.R_elder' HO131.out (Kd.R_base ho19) hb); have n2_ := mk (Kd.R_elder' HO143.out (Kd.R_base ho19) hb); have HO137 := mk (Kd.R_lower (Kd.R_new' (Kd.R_new' (Kd.R_new' ho19 (Kd.R_lt HO125.out)) (Kd.R_lt HO131.out)) (Kd.R_lt HO143.out)) (below_size HB.out)); have n4_ := mk (blk_below BK121.out hb); have n5_ := mk (blk_below BK122.out hb); have n6_ := mk (below_step HB.out hb); replace HO125 := n0_; replace HO131 := n1_; replace HO143 := n2_; replace BK121 := n4_; replace BK122 := n5_; replace HB := n6_; clear n0_ n1_ n2_ n4_ n5_ n6_; clear hb ho19
              refine hK.out _ _ ⟨(blk_cell BK121.out 0).trans rfl, (blk_cell BK121.out 1).trans rfl, (blk_cell BK122.out 0).trans rfl, (blk_cell BK122.out 1).trans rfl⟩ (fun hHeld => ?_)
              clear hK K
              refine norm_ (a' := ?_) ?_ ?_
              rotate_left
              · show Act.put _ (some 13) _ = _
                simp only [Act.put, List.setIfInBounds_toArray, List.set_cons_zero, List.set_cons_succ, i64_w, i32_w]
                rfl
              exact norm_ (by first | (simp only [putAll, Act.put, List.setIfInBounds_toArray, List.set_cons_zero, List.set_cons_succ]; done) | (simp only [putAll, Act.put, List.setIfInBounds_toArray, List.set_cons_zero, List.set_cons_succ]; rfl)) (hJ0_6_8_14 (v124, v130, v136, v142) _ ⟨hHeld, (by exact Kd.R_mono HO125.out (fun _ hk => ⟨hk.1.1, ⟨hk.2, hk.1.2⟩⟩)), (by exact Kd.R_mono HO131.out (fun _ hk => ⟨hk.1.1, ⟨hk.2, hk.1.2⟩⟩)), (by exact Kd.R_mono HO137.out (fun _ hk => ⟨hk.1.1.2, ⟨hk.1.2, hk.2⟩⟩)), (by exact Kd.R_mono HO143.out (fun _ hk => ⟨hk.1.1, ⟨hk.1.2, hk.2⟩⟩)), BK121.out, BK122.out, HB.out⟩)
          intro hJ0_6_14
          refine join_ (σ := Value × Value × Value) 7 #[true, true, true, false, true, true, false, false, true, true, true, false, true, true, true, false, false, false] (fun s_ => [(5, s_.1), (13, s_.2.1), (19, s_.2.2)]) (fun s_ w' => (w'.cell? ⟨gb121, 0, none⟩ = some (.slice A0_0 l0_0.length c0_0) ∧ w'.cell? ⟨gb121, 1, none⟩ = some (.int .i64 a0_1) ∧ w'.cell? ⟨gb122, 0, none⟩ = some (.slice A1_0 l1_0.length c1_0) ∧ w'.cell? ⟨gb122, 1, none⟩ = some (.int .i64 a1_1)) ∧ (Kd.R (Kd.int .i64) 3 w' w.heap.size (fun k_ => some k_ ≠ (s_.2.1 : Value).ownBlock ∧ some k_ ≠ (s_.2.2 : Value).ownBlock) s_.1 y123) ∧ (Kd.R (Kd.int .i64) 3 w' w.heap.size (fun k_ => some k_ ≠ (s_.1 : Value).ownBlock ∧ some k_ ≠ (s_.2.2 : Value).ownBlock) s_.2.1 y135) ∧ (Kd.R (Kd.int .i64) 3 w' w.heap.size (fun k_ => some k_ ≠ (s_.1 : Value).ownBlock ∧ some k_ ≠ (s_.2.1 : Value).ownBlock) s_.2.2 y141) ∧ (w'.heap[gb121]? = some (.cells #[.slice A0_0 l0_0.length c0_0, .int .i64 a0_1] 24 (0, 0))) ∧ (w'.heap[gb122]? = some (.cells #[.slice A1_0 l1_0.length c1_0, .int .i64 a1_1] 24 (0, 0))) ∧ (Below w.heap.size w w')) ?_ ?_
          · skip
            rintro ⟨v124, v136, v142⟩ w17 ⟨hS_, h0_, h1_, h2_, h3_, h4_, h5_⟩
            have n0_ : Aside0 (Kd.R (Kd.int .i64) 3 w17 w.heap.size (fun k_ => some k_ ≠ (v136 : Value).ownBlock ∧ some k_ ≠ (v142 : Value).ownBlock) v124 y123) := ⟨h0_⟩; have n1_ : Aside0 (Kd.R (Kd.int .i64) 3 w17 w.heap.size (fun k_ => some k_ ≠ (v124 : Value).ownBlock ∧ some k_ ≠ (v142 : Value).ownBlock) v136 y135) := ⟨h1_⟩; have n2_ : Aside0 (Kd.R (Kd.int .i64) 3 w17 w.heap.size (fun k_ => some k_ ≠ (v124 : Value).ownBlock ∧ some k_ ≠ (v136 : Value).ownBlock) v142 y141) := ⟨h2_⟩; have n3_ : Aside0 (w17.heap[gb121]? = some (.cells #[.slice A0_0 l0_0.length c0_0, .int .i64 a0_1] 24 (0, 0))) := ⟨h3_⟩; have n4_ : Aside0 (w17.heap[gb122]? = some (.cells #[.slice A1_0 l1_0.length c1_0, .int .i64 a1_1] 24 (0, 0))) := ⟨h4_⟩; have n5_ : Aside0 (Below w.heap.size w w17) := ⟨h5_⟩; clear BK121; clear BK122; clear HB; clear h0_ h1_ h2_ h3_ h4_ h5_; have HO125 := n0_; have HO137 := n1_; have HO143 := n2_; have BK121 := n3_; have BK122 := n4_; have HB := n5_; clear n0_ n1_ n2_ n3_ n4_ n5_
            have hHeld : w17.cell? ⟨gb121, 0, none⟩ = some (.slice A0_0 l0_0.length c0_0) ∧ w17.cell? ⟨gb121, 1, none⟩ = some (.int .i64 a0_1) ∧ w17.cell? ⟨gb122, 0, none⟩ = some (.slice A1_0 l1_0.length c1_0) ∧ w17.cell? ⟨gb122, 1, none⟩ = some (.int .i64 a1_1) := hS_
            refine norm_ (a' := ?_) ?_ ?_
            rotate_left
            · simp only [putAll, Act.put, List.setIfInBounds_toArray, List.set_cons_zero, List.set_cons_succ]
              rfl
            refine two_ (i := 3) (j := 6) (Ni := some 8) (Nj := some 11) #[true, true, true, true, true, true, false, false, true, true, true, false, true, true, true, false, false, false] #[true, true, true, false, true, true, true, false, true, true, true, false, true, true, true, false, false, false] rfl rfl rfl rfl (two_of HT_.out (by kernel_rfl)) (by decide) (by decide) (fun K hK => ?_) (fun K hK => ?_)
            · skip
              refine Kd.R_append_rows_step (Kd.int .i64) (w0 := w) w.heap.size (by rfl) (.tmp 5) (.tmp 7) 22 3 (.int .i64 0) 8 rfl Try.underlying22 info3 rfl (by decide) (by omega) v124 y123 l0_0 _ _ _ (fun k_ => some k_ ≠ (v136 : Value).ownBlock ∧ some k_ ≠ (v142 : Value).ownBlock) (fun _ => False) rfl rfl ?aO ?aR (fun _ _ h => h) (fun _ h => h.elim) ?aF ?aB ?aS ?aL ?_
              (case aR => repeat (first | exact (Kd.C_below HR0_0.out HB.out) | (with_reducible refine Kd.C_alloc ?_ _) | (with_reducible refine Kd.C_drewN ?_ _) | (with_reducible refine Kd.C_drew ?_)))
              (case aB => exact HB.out)
              (case aF => exact (fun k_ hk => ⟨Kd.fresh' (Kd.R_lt HO137.out) k_ hk, Kd.fresh' (Kd.R_lt HO143.out) k_ hk⟩))
              (case aO => exact HO125.out)
              (case aS => exact (below_size HB.out))
              (case aL => have := LMc3.out; omega)
              intro v127 w18 ho hb hg hat
              rw [← Ny126.out] at ho
              have n0_ := mk (blk_grown (g := gb121) (o := .cells #[.slice A0_0 l0_0.length c0_0, .int .i64 a0_1] 24 (0, 0)) BK121.out hg (Kd.R_ne HO125.out BK121.out (by decide))); have n1_ := mk (blk_grown (g := gb122) (o := .cells #[.slice A1_0 l1_0.length c1_0, .int .i64 a1_1] 24 (0, 0)) BK122.out hg (Kd.R_ne HO125.out BK122.out (by decide))); have n2_ := mk (Kd.R_after (ok := (fun k_ => some k_ ≠ (v142 : Value).ownBlock)) (by exact Kd.R_mono HO137.out (fun _ hk => ⟨hk.2, hk.1⟩)) hg hat); have n3_ := mk (Kd.R_after (ok := (fun k_ => some k_ ≠ (v136 : Value).ownBlock)) (by exact Kd.R_mono HO143.out (fun _ hk => ⟨hk.2, hk.1⟩)) hg hat); have n4_ := mk (hb); have HO128 := mk (ho); clear HO125; replace BK121 := n0_; replace BK122 := n1_; replace HO137 := n2_; replace HO143 := n3_; replace HB := n4_; clear n0_ n1_ n2_ n3_ n4_; clear ho hb hg hat
              refine hK.out _ _ ⟨(blk_cell BK121.out 0).trans rfl, (blk_cell BK121.out 1).trans rfl, (blk_cell BK122.out 0).trans rfl, (blk_cell BK122.out 1).trans rfl⟩ (fun hHeld => ?_)
              clear hK K
              refine norm_ (a' := ?_) ?_ ?_
              rotate_left
              · show Act.put _ (some 8) _ = _
                simp only [Act.put, List.setIfInBounds_toArray, List.set_cons_zero, List.set_cons_succ, i64_w, i32_w]
                rfl
              exact norm_ (by first | (simp only [putAll, Act.put, List.setIfInBounds_toArray, List.set_cons_zero, List.set_cons_succ]; done) | (simp only [putAll, Act.put, List.setIfInBounds_toArray, List.set_cons_zero, List.set_cons_succ]; rfl)) (hJ0_3_8_14 (v124, v127, v136, v142) _ ⟨hHeld, HO128.out, (by exact Kd.R_mono HO137.out (fun _ hk => ⟨hk.2, hk.1⟩)), (by exact Kd.R_mono HO143.out (fun _ hk => ⟨hk.2, hk.1⟩)), BK121.out, BK122.out, HB.out⟩)
            · skip
              refine Kd.R_lit_step (Kd.int .i64) _ 3 ?hg (N := 11) ?hd (xs := ([a0_1] : List Int)) (inner := [.int .i64 a0_1]) (ok := fun _ => True) (okp := fun _ => True) ?hr ?hp (fun _ hk => hk) trivial (Below.refl _ _) (Nat.le_refl _) (by simp) ?_; (case hd => rfl); (case hg => rfl); (case hr => first | (go_simp; done) | (go_simp; rfl)); (case hp => exact (Reps.one (show Kd.M (Kd.int .i64) _ _ _ a0_1 [.int .i64 a0_1] from rfl) (Reps.none _ _)))
              intro v130 w18 ho19 hb hg_ hnew_
              clear hg_ hnew_
              (first | rw [← Ny129.out] at ho19 | (simp only [Int.reduceToNat] at ho19; rw [← Ny129.out] at ho19))
              have n0_ := mk (Kd.R_elder' HO125.out (Kd.R_base ho19) hb); have n1_ := mk (Kd.R_elder' HO137.out (Kd.R_base ho19) hb); have n2_ := mk (Kd.R_elder' HO143.out (Kd.R_base ho19) hb); have HO131 := mk (Kd.R_lower (Kd.R_new' (Kd.R_new' (Kd.R_new' ho19 (Kd.R_lt HO125.out)) (Kd.R_lt HO137.out)) (Kd.R_lt HO143.out)) (below_size HB.out)); have n4_ := mk (blk_below BK121.out hb); have n5_ := mk (blk_below BK122.out hb); have n6_ := mk (below_step HB.out hb); replace HO125 := n0_; replace HO137 := n1_; replace HO143 := n2_; replace BK121 := n4_; replace BK122 := n5_; replace HB := n6_; clear n0_ n1_ n2_ n4_ n5_ n6_; clear hb ho19
              refine hK.out _ _ ⟨(blk_cell BK121.out 0).trans rfl, (blk_cell BK121.out 1).trans rfl, (blk_cell BK122.out 0).trans rfl, (blk_cell BK122.out 1).trans rfl⟩ (fun hHeld => ?_)
              clear hK K
              refine norm_ (a' := ?_) ?_ ?_
              rotate_left
              · show Act.put _ (some 11) _ = _
                simp only [Act.put, List.setIfInBounds_toArray, List.set_cons_zero, List.set_cons_succ, i64_w, i32_w]
                rfl
              exact norm_ (by first | (simp only [putAll, Act.put, List.setIfInBounds_toArray, List.set_cons_zero, List.set_cons_succ]; done) | (simp only [putAll, Act.put, List.setIfInBounds_toArray, List.set_cons_zero, List.set_cons_succ]; rfl)) (hJ0_6_8_14 (v124, v130, v136, v142) _ ⟨hHeld, (by exact Kd.R_mono HO125.out (fun _ hk => ⟨hk.2, ⟨hk.1.1, hk.1.2⟩⟩)), (by exact Kd.R_mono HO131.out (fun _ hk => ⟨hk.1.1.2, ⟨hk.1.2, hk.2⟩⟩)), (by exact Kd.R_mono HO137.out (fun _ hk => ⟨hk.1.1, ⟨hk.2, hk.1.2⟩⟩)), (by exact Kd.R_mono HO143.out (fun _ hk => ⟨hk.1.1, ⟨hk.2, hk.1.2⟩⟩)), BK121.out, BK122.out, HB.out⟩)
          intro hJ0_8_14
          refine join_ (σ := Value × Value × Value) 7 #[false, true, true, false, true, true, true, false, true, true, true, false, true, true, true, false, false, false] (fun s_ => [(11, s_.1), (13, s_.2.1), (19, s_.2.2)]) (fun s_ w' => (w'.cell? ⟨gb121, 0, none⟩ = some (.slice A0_0 l0_0.length c0_0) ∧ w'.cell? ⟨gb121, 1, none⟩ = some (.int .i64 a0_1) ∧ w'.cell? ⟨gb122, 0, none⟩ = some (.slice A1_0 l1_0.length c1_0) ∧ w'.cell? ⟨gb122, 1, none⟩ = some (.int .i64 a1_1)) ∧ (Kd.R (Kd.int .i64) 3 w' w.heap.size (fun k_ => some k_ ≠ (s_.2.1 : Value).ownBlock ∧ some k_ ≠ (s_.2.2 : Value).ownBlock) s_.1 y129) ∧ (Kd.R (Kd.int .i64) 3 w' w.heap.size (fun k_ => some k_ ≠ (s_.1 : Value).ownBlock ∧ some k_ ≠ (s_.2.2 : Value).ownBlock) s_.2.1 y135) ∧ (Kd.R (Kd.int .i64) 3 w' w.heap.size (fun k_ => some k_ ≠ (s_.1 : Value).ownBlock ∧ some k_ ≠ (s_.2.1 : Value).ownBlock) s_.2.2 y141) ∧ (w'.heap[gb121]? = some (.cells #[.slice A0_0 l0_0.length c0_0, .int .i64 a0_1] 24 (0, 0))) ∧ (w'.heap[gb122]? = some (.cells #[.slice A1_0 l1_0.length c1_0, .int .i64 a1_1] 24 (0, 0))) ∧ (Below w.heap.size w w')) ?_ ?_
          · skip
            rintro ⟨v130, v136, v142⟩ w17 ⟨hS_, h0_, h1_, h2_, h3_, h4_, h5_⟩
            have n0_ : Aside0 (Kd.R (Kd.int .i64) 3 w17 w.heap.size (fun k_ => some k_ ≠ (v136 : Value).ownBlock ∧ some k_ ≠ (v142 : Value).ownBlock) v130 y129) := ⟨h0_⟩; have n1_ : Aside0 (Kd.R (Kd.int .i64) 3 w17 w.heap.size (fun k_ => some k_ ≠ (v130 : Value).ownBlock ∧ some k_ ≠ (v142 : Value).ownBlock) v136 y135) := ⟨h1_⟩; have n2_ : Aside0 (Kd.R (Kd.int .i64) 3 w17 w.heap.size (fun k_ => some k_ ≠ (v130 : Value).ownBlock ∧ some k_ ≠ (v136 : Value).ownBlock) v142 y141) := ⟨h2_⟩; have n3_ : Aside0 (w17.heap[gb121]? = some (.cells #[.slice A0_0 l0_0.length c0_0, .int .i64 a0_1] 24 (0, 0))) := ⟨h3_⟩; have n4_ : Aside0 (w17.heap[gb122]? = some (.cells #[.slice A1_0 l1_0.length c1_0, .int .i64 a1_1] 24 (0, 0))) := ⟨h4_⟩; have n5_ : Aside0 (Below w.heap.size w w17) := ⟨h5_⟩; clear BK121; clear BK122; clear HB; clear h0_ h1_ h2_ h3_ h4_ h5_; have HO131 := n0_; have HO137 := n1_; have HO143 := n2_; have BK121 := n3_; have BK122 := n4_; have HB := n5_; clear n0_ n1_ n2_ n3_ n4_ n5_
            have hHeld : w17.cell? ⟨gb121, 0, none⟩ = some (.slice A0_0 l0_0.length c0_0) ∧ w17.cell? ⟨gb121, 1, none⟩ = some (.int .i64 a0_1) ∧ w17.cell? ⟨gb122, 0, none⟩ = some (.slice A1_0 l1_0.length c1_0) ∧ w17.cell? ⟨gb122, 1, none⟩ = some (.int .i64 a1_1) := hS_
            refine norm_ (a' := ?_) ?_ ?_
            rotate_left
            · simp only [putAll, Act.put, List.setIfInBounds_toArray, List.set_cons_zero, List.set_cons_succ]
              rfl
            refine one_ (i := 0) (N := some 5) #[true, true, true, false, true, true, true, false, true, true, true, false, true, true, true, false, false, false] rfl rfl (one_of HT_.out (by kernel_rfl)) (by decide) (fun K hK => ?_)
            refine Kd.R_lit_step (Kd.int .i64) _ 3 ?hg (N := 5) ?hd (xs := ([] : List Int)) (inner := []) (ok := fun _ => True) (okp := fun _ => True) ?hr ?hp (fun _ hk => hk) trivial (Below.refl _ _) (Nat.le_refl _) (by simp) ?_; (case hd => rfl); (case hg => rfl); (case hr => first | (go_simp; done) | (go_simp; rfl)); (case hp => exact (Reps.none _ _))
            intro v124 w18 ho19 hb hg_ hnew_
            clear hg_ hnew_
            (first | rw [← Ny123.out] at ho19 | (simp only [Int.reduceToNat] at ho19; rw [← Ny123.out] at ho19))
            have n0_ := mk (Kd.R_elder' HO131.out (Kd.R_base ho19) hb); have n1_ := mk (Kd.R_elder' HO137.out (Kd.R_base ho19) hb); have n2_ := mk (Kd.R_elder' HO143.out (Kd.R_base ho19) hb); have HO125 := mk (Kd.R_lower (Kd.R_new' (Kd.R_new' (Kd.R_new' ho19 (Kd.R_lt HO131.out)) (Kd.R_lt HO137.out)) (Kd.R_lt HO143.out)) (below_size HB.out)); have n4_ := mk (blk_below BK121.out hb); have n5_ := mk (blk_below BK122.out hb); have n6_ := mk (below_step HB.out hb); replace HO131 := n0_; replace HO137 := n1_; replace HO143 := n2_; replace BK121 := n4_; replace BK122 := n5_; replace HB := n6_; clear n0_ n1_ n2_ n4_ n5_ n6_; clear hb ho19
            refine hK.out _ _ ⟨(blk_cell BK121.out 0).trans rfl, (blk_cell BK121.out 1).trans rfl, (blk_cell BK122.out 0).trans rfl, (blk_cell BK122.out 1).trans rfl⟩ (fun hHeld => ?_)
            clear hK K
            refine norm_ (a' := ?_) ?_ ?_
            rotate_left
            · show Act.put _ (some 5) _ = _
              simp only [Act.put, List.setIfInBounds_toArray, List.set_cons_zero, List.set_cons_succ, i64_w, i32_w]
              rfl
            exact norm_ (by first | (simp only [putAll, Act.put, List.setIfInBounds_toArray, List.set_cons_zero, List.set_cons_succ]; done) | (simp only [putAll, Act.put, List.setIfInBounds_toArray, List.set_cons_zero, List.set_cons_succ]; rfl)) (hJ0_6_8_14 (v124, v130, v136, v142) _ ⟨hHeld, (by exact Kd.R_mono HO125.out (fun _ hk => ⟨hk.1.1.2, ⟨hk.1.2, hk.2⟩⟩)), (by exact Kd.R_mono HO131.out (fun _ hk => ⟨hk.2, ⟨hk.1.1, hk.1.2⟩⟩)), (by exact Kd.R_mono HO137.out (fun _ hk => ⟨hk.2, ⟨hk.1.1, hk.1.2⟩⟩)), (by exact Kd.R_mono HO143.out (fun _ hk => ⟨hk.2, ⟨hk.1.1, hk.1.2⟩⟩)), BK121.out, BK122.out, HB.out⟩)
          intro hJ6_8_14
          refine join_ (σ := Value × Value) 8 #[true, true, true, true, true, true, false, false, false, true, true, false, true, true, false, false, false, false] (fun s_ => [(5, s_.1), (8, s_.2)]) (fun s_ w' => (w'.cell? ⟨gb121, 0, none⟩ = some (.slice A0_0 l0_0.length c0_0) ∧ w'.cell? ⟨gb121, 1, none⟩ = some (.int .i64 a0_1) ∧ w'.cell? ⟨gb122, 0, none⟩ = some (.slice A1_0 l1_0.length c1_0) ∧ w'.cell? ⟨gb122, 1, none⟩ = some (.int .i64 a1_1)) ∧ (Kd.R (Kd.int .i64) 3 w' w.heap.size (fun _ => True) s_.2 y126) ∧ (w'.heap[gb121]? = some (.cells #[.slice A0_0 l0_0.length c0_0, .int .i64 a0_1] 24 (0, 0))) ∧ (w'.heap[gb122]? = some (.cells #[.slice A1_0 l1_0.length c1_0, .int .i64 a1_1] 24 (0, 0))) ∧ (Below w.heap.size w w')) ?_ ?_
          · skip
            rintro ⟨v124, v127⟩ w14 ⟨hS_, h0_, h1_, h2_, h3_⟩
            have n0_ : Aside0 (Kd.R (Kd.int .i64) 3 w14 w.heap.size (fun _ => True) v127 y126) := ⟨h0_⟩; have n1_ : Aside0 (w14.heap[gb121]? = some (.cells #[.slice A0_0 l0_0.length c0_0, .int .i64 a0_1] 24 (0, 0))) := ⟨h1_⟩; have n2_ : Aside0 (w14.heap[gb122]? = some (.cells #[.slice A1_0 l1_0.length c1_0, .int .i64 a1_1] 24 (0, 0))) := ⟨h2_⟩; have n3_ : Aside0 (Below w.heap.size w w14) := ⟨h3_⟩; clear BK121; clear BK122; clear HB; clear h0_ h1_ h2_ h3_; have HO128 := n0_; have BK121 := n1_; have BK122 := n2_; have HB := n3_; clear n0_ n1_ n2_ n3_
            have hHeld : w14.cell? ⟨gb121, 0, none⟩ = some (.slice A0_0 l0_0.length c0_0) ∧ w14.cell? ⟨gb121, 1, none⟩ = some (.int .i64 a0_1) ∧ w14.cell? ⟨gb122, 0, none⟩ = some (.slice A1_0 l1_0.length c1_0) ∧ w14.cell? ⟨gb122, 1, none⟩ = some (.int .i64 a1_1) := hS_
            refine norm_ (a' := ?_) ?_ ?_
            rotate_left
            · simp only [putAll, Act.put, List.setIfInBounds_toArray, List.set_cons_zero, List.set_cons_succ]
              rfl
            refine three_ (i := 6) (j := 8) (k := 14) (Ni := some 11) (Nj := some 13) (Nk := some 19) #[true, true, true, true, true, true, true, false, false, true, true, false, true, true, false, false, false, false] #[true, true, true, true, true, true, false, false, true, true, true, false, true, true, false, false, false, false] #[true, true, true, true, true, true, false, false, false, true, true, false, true, true, true, false, false, false] rfl rfl rfl rfl rfl rfl (three_of HT_.out (by kernel_rfl)) (by decide) (by decide) (by decide) (fun K hK => ?_) (fun K hK => ?_) (fun K hK => ?_)
            · skip
              refine Kd.R_lit_step (Kd.int .i64) _ 3 ?hg (N := 11) ?hd (xs := ([a0_1] : List Int)) (inner := [.int .i64 a0_1]) (ok := fun _ => True) (okp := fun _ => True) ?hr ?hp (fun _ hk => hk) trivial (Below.refl _ _) (Nat.le_refl _) (by simp) ?_; (case hd => rfl); (case hg => rfl); (case hr => first | (go_simp; done) | (go_simp; rfl)); (case hp => exact (Reps.one (show Kd.M (Kd.int .i64) _ _ _ a0_1 [.int .i64 a0_1] from rfl) (Reps.none _ _)))
              intro v130 w15 ho16 hb hg_ hnew_
              clear hg_ hnew_
              (first | rw [← Ny129.out] at ho16 | (simp only [Int.reduceToNat] at ho16; rw [← Ny129.out] at ho16))
              have n0_ := mk (Kd.R_elder' HO128.out (Kd.R_base ho16) hb); have HO131 := mk (Kd.R_lower (Kd.R_new' ho16 (Kd.R_lt HO128.out)) (below_size HB.out)); have n2_ := mk (blk_below BK121.out hb); have n3_ := mk (blk_below BK122.out hb); have n4_ := mk (below_step HB.out hb); replace HO128 := n0_; replace BK121 := n2_; replace BK122 := n3_; replace HB := n4_; clear n0_ n2_ n3_ n4_; clear hb ho16
              refine hK.out _ _ ⟨(blk_cell BK121.out 0).trans rfl, (blk_cell BK121.out 1).trans rfl, (blk_cell BK122.out 0).trans rfl, (blk_cell BK122.out 1).trans rfl⟩ (fun hHeld => ?_)
              clear hK K
              refine norm_ (a' := ?_) ?_ ?_
              rotate_left
              · show Act.put _ (some 11) _ = _
                simp only [Act.put, List.setIfInBounds_toArray, List.set_cons_zero, List.set_cons_succ, i64_w, i32_w]
                rfl
              exact norm_ (by first | (simp only [putAll, Act.put, List.setIfInBounds_toArray, List.set_cons_zero, List.set_cons_succ]; done) | (simp only [putAll, Act.put, List.setIfInBounds_toArray, List.set_cons_zero, List.set_cons_succ]; rfl)) (hJ0_3_6 (v124, v127, v130) _ ⟨hHeld, (by exact Kd.R_mono HO128.out (fun _ hk => hk.2)), (by exact Kd.R_mono HO131.out (fun _ hk => hk.2)), BK121.out, BK122.out, HB.out⟩)
            · skip
              refine Kd.R_lit_step (Kd.int .i64) _ 3 ?hg (N := 13) ?hd (xs := ([] : List Int)) (inner := []) (ok := fun _ => True) (okp := fun _ => True) ?hr ?hp (fun _ hk => hk) trivial (Below.refl _ _) (Nat.le_refl _) (by simp) ?_; (case hd => rfl); (case hg => rfl); (case hr => first | (go_simp; done) | (go_simp; rfl)); (case hp => exact (Reps.none _ _))
              intro v136 w15 ho16 hb hg_ hnew_
              clear hg_ hnew_
              (first | rw [← Ny135.out] at ho16 | (simp only [Int.reduceToNat] at ho16; rw [← Ny135.out] at ho16))
              have n0_ := mk (Kd.R_elder' HO128.out (Kd.R_base ho16) hb); have HO137 := mk (Kd.R_lower (Kd.R_new' ho16 (Kd.R_lt HO128.out)) (below_size HB.out)); have n2_ := mk (blk_below BK121.out hb); have n3_ := mk (blk_below BK122.out hb); have n4_ := mk (below_step HB.out hb); replace HO128 := n0_; replace BK121 := n2_; replace BK122 := n3_; replace HB := n4_; clear n0_ n2_ n3_ n4_; clear hb ho16
              refine hK.out _ _ ⟨(blk_cell BK121.out 0).trans rfl, (blk_cell BK121.out 1).trans rfl, (blk_cell BK122.out 0).trans rfl, (blk_cell BK122.out 1).trans rfl⟩ (fun hHeld => ?_)
              clear hK K
              refine norm_ (a' := ?_) ?_ ?_
              rotate_left
              · show Act.put _ (some 13) _ = _
                simp only [Act.put, List.setIfInBounds_toArray, List.set_cons_zero, List.set_cons_succ, i64_w, i32_w]
                rfl
              exact norm_ (by first | (simp only [putAll, Act.put, List.setIfInBounds_toArray, List.set_cons_zero, List.set_cons_succ]; done) | (simp only [putAll, Act.put, List.setIfInBounds_toArray, List.set_cons_zero, List.set_cons_succ]; rfl)) (hJ0_3_8 (v124, v127, v136) _ ⟨hHeld, (by exact Kd.R_mono HO128.out (fun _ hk => hk.2)), (by exact Kd.R_mono HO137.out (fun _ hk => hk.2)), BK121.out, BK122.out, HB.out⟩)
            · skip
              refine Kd.R_lit_step (Kd.int .i64) _ 3 ?hg (N := 19) ?hd (xs := ([a1_1] : List Int)) (inner := [.int .i64 a1_1]) (ok := fun _ => True) (okp := fun _ => True) ?hr ?hp (fun _ hk => hk) trivial (Below.refl _ _) (Nat.le_refl _) (by simp) ?_; (case hd => rfl); (case hg => rfl); (case hr => first | (go_simp; done) | (go_simp; rfl)); (case hp => exact (Reps.one (show Kd.M (Kd.int .i64) _ _ _ a1_1 [.int .i64 a1_1] from rfl) (Reps.none _ _)))
              intro v142 w15 ho16 hb hg_ hnew_
              clear hg_ hnew_
              (first | rw [← Ny141.out] at ho16 | (simp only [Int.reduceToNat] at ho16; rw [← Ny141.out] at ho16))
              have n0_ := mk (Kd.R_elder' HO128.out (Kd.R_base ho16) hb); have HO143 := mk (Kd.R_lower (Kd.R_new' ho16 (Kd.R_lt HO128.out)) (below_size HB.out)); have n2_ := mk (blk_below BK121.out hb); have n3_ := mk (blk_below BK122.out hb); have n4_ := mk (below_step HB.out hb); replace HO128 := n0_; replace BK121 := n2_; replace BK122 := n3_; replace HB := n4_; clear n0_ n2_ n3_ n4_; clear hb ho16
              refine hK.out _ _ ⟨(blk_cell BK121.out 0).trans rfl, (blk_cell BK121.out 1).trans rfl, (blk_cell BK122.out 0).trans rfl, (blk_cell BK122.out 1).trans rfl⟩ (fun hHeld => ?_)
              clear hK K
              refine norm_ (a' := ?_) ?_ ?_
              rotate_left
              · show Act.put _ (some 19) _ = _
                simp only [Act.put, List.setIfInBounds_toArray, List.set_cons_zero, List.set_cons_succ, i64_w, i32_w]
                rfl
              exact norm_ (by first | (simp only [putAll, Act.put, List.setIfInBounds_toArray, List.set_cons_zero, List.set_cons_succ]; done) | (simp only [putAll, Act.put, List.setIfInBounds_toArray, List.set_cons_zero, List.set_cons_succ]; rfl)) (hJ0_3_14 (v124, v127, v142) _ ⟨hHeld, (by exact Kd.R_mono HO128.out (fun _ hk => hk.2)), (by exact Kd.R_mono HO143.out (fun _ hk => hk.2)), BK121.out, BK122.out, HB.out⟩)
          intro hJ0_3
          refine join_ (σ := Value × Value) 8 #[true, true, true, false, true, true, true, false, false, true, true, false, true, true, false, false, false, false] (fun s_ => [(5, s_.1), (11, s_.2)]) (fun s_ w' => (w'.cell? ⟨gb121, 0, none⟩ = some (.slice A0_0 l0_0.length c0_0) ∧ w'.cell? ⟨gb121, 1, none⟩ = some (.int .i64 a0_1) ∧ w'.cell? ⟨gb122, 0, none⟩ = some (.slice A1_0 l1_0.length c1_0) ∧ w'.cell? ⟨gb122, 1, none⟩ = some (.int .i64 a1_1)) ∧ (Kd.R (Kd.int .i64) 3 w' w.heap.size (fun k_ => some k_ ≠ (s_.2 : Value).ownBlock) s_.1 y123) ∧ (Kd.R (Kd.int .i64) 3 w' w.heap.size (fun k_ => some k_ ≠ (s_.1 : Value).ownBlock) s_.2 y129) ∧ (w'.heap[gb121]? = some (.cells #[.slice A0_0 l0_0.length c0_0, .int .i64 a0_1] 24 (0, 0))) ∧ (w'.heap[gb122]? = some (.cells #[.slice A1_0 l1_0.length c1_0, .int .i64 a1_1] 24 (0, 0))) ∧ (Below w.heap.size w w')) ?_ ?_
          · skip
            rintro ⟨v124, v130⟩ w15 ⟨hS_, h0_, h1_, h2_, h3_, h4_⟩
            have n0_ : Aside0 (Kd.R (Kd.int .i64) 3 w15 w.heap.size (fun k_ => some k_ ≠ (v130 : Value).ownBlock) v124 y123) := ⟨h0_⟩; have n1_ : Aside0 (Kd.R (Kd.int .i64) 3 w15 w.heap.size (fun k_ => some k_ ≠ (v124 : Value).ownBlock) v130 y129) := ⟨h1_⟩; have n2_ : Aside0 (w15.heap[gb121]? = some (.cells #[.slice A0_0 l0_0.length c0_0, .int .i64 a0_1] 24 (0, 0))) := ⟨h2_⟩; have n3_ : Aside0 (w15.heap[gb122]? = some (.cells #[.slice A1_0 l1_0.length c1_0, .int .i64 a1_1] 24 (0, 0))) := ⟨h3_⟩; have n4_ : Aside0 (Below w.heap.size w w15) := ⟨h4_⟩; clear BK121; clear BK122; clear HB; clear h0_ h1_ h2_ h3_ h4_; have HO125 := n0_; have HO131 := n1_; have BK121 := n2_; have BK122 := n3_; have HB := n4_; clear n0_ n1_ n2_ n3_ n4_
            have hHeld : w15.cell? ⟨gb121, 0, none⟩ = some (.slice A0_0 l0_0.length c0_0) ∧ w15.cell? ⟨gb121, 1, none⟩ = some (.int .i64 a0_1) ∧ w15.cell? ⟨gb122, 0, none⟩ = some (.slice A1_0 l1_0.length c1_0) ∧ w15.cell? ⟨gb122, 1, none⟩ = some (.int .i64 a1_1) := hS_
            refine norm_ (a' := ?_) ?_ ?_
            rotate_left
            · simp only [putAll, Act.put, List.setIfInBounds_toArray, List.set_cons_zero, List.set_cons_succ]
              rfl
            refine three_ (i := 3) (j := 8) (k := 14) (Ni := some 8) (Nj := some 13) (Nk := some 19) #[true, true, true, true, true, true, true, false, false, true, true, false, true, true, false, false, false, false] #[true, true, true, false, true, true, true, false, true, true, true, false, true, true, false, false, false, false] #[true, true, true, false, true, true, true, false, false, true, true, false, true, true, true, false, false, false] rfl rfl rfl rfl rfl rfl (three_of HT_.out (by kernel_rfl)) (by decide) (by decide) (by decide) (fun K hK => ?_) (fun K hK => ?_) (fun K hK => ?_)
            · skip
              refine Kd.R_append_rows_step (Kd.int .i64) (w0 := w) w.heap.size (by rfl) (.tmp 5) (.tmp 7) 22 3 (.int .i64 0) 8 rfl Try.underlying22 info3 rfl (by decide) (by omega) v124 y123 l0_0 _ _ _ (fun k_ => some k_ ≠ (v130 : Value).ownBlock) (fun _ => False) rfl rfl ?aO ?aR (fun _ _ h => h) (fun _ h => h.elim) ?aF ?aB ?aS ?aL ?_
              (case aR => repeat (first | exact (Kd.C_below HR0_0.out HB.out) | (with_reducible refine Kd.C_alloc ?_ _) | (with_reducible refine Kd.C_drewN ?_ _) | (with_reducible refine Kd.C_drew ?_)))
              (case aB => exact HB.out)
              (case aF => exact (fun k_ hk => Kd.fresh' (Kd.R_lt HO131.out) k_ hk))
              (case aO => exact HO125.out)
              (case aS => exact (below_size HB.out))
              (case aL => have := LMc3.out; omega)
              intro v127 w16 ho hb hg hat
              rw [← Ny126.out] at ho
              have n0_ := mk (blk_grown (g := gb121) (o := .cells #[.slice A0_0 l0_0.length c0_0, .int .i64 a0_1] 24 (0, 0)) BK121.out hg (Kd.R_ne HO125.out BK121.out (by decide))); have n1_ := mk (blk_grown (g := gb122) (o := .cells #[.slice A1_0 l1_0.length c1_0, .int .i64 a1_1] 24 (0, 0)) BK122.out hg (Kd.R_ne HO125.out BK122.out (by decide))); have n2_ := mk (Kd.R_after (ok := (fun _ => True)) (by exact Kd.R_mono HO131.out (fun _ hk => ⟨trivial, hk⟩)) hg hat); have n3_ := mk (hb); have HO128 := mk (ho); clear HO125; replace BK121 := n0_; replace BK122 := n1_; replace HO131 := n2_; replace HB := n3_; clear n0_ n1_ n2_ n3_; clear ho hb hg hat
              refine hK.out _ _ ⟨(blk_cell BK121.out 0).trans rfl, (blk_cell BK121.out 1).trans rfl, (blk_cell BK122.out 0).trans rfl, (blk_cell BK122.out 1).trans rfl⟩ (fun hHeld => ?_)
              clear hK K
              refine norm_ (a' := ?_) ?_ ?_
              rotate_left
              · show Act.put _ (some 8) _ = _
                simp only [Act.put, List.setIfInBounds_toArray, List.set_cons_zero, List.set_cons_succ, i64_w, i32_w]
                rfl
              exact norm_ (by first | (simp only [putAll, Act.put, List.setIfInBounds_toArray, List.set_cons_zero, List.set_cons_succ]; done) | (simp only [putAll, Act.put, List.setIfInBounds_toArray, List.set_cons_zero, List.set_cons_succ]; rfl)) (hJ0_3_6 (v124, v127, v130) _ ⟨hHeld, HO128.out, (by exact Kd.R_mono HO131.out (fun _ hk => hk.2)), BK121.out, BK122.out, HB.out⟩)
            · skip
              refine Kd.R_lit_step (Kd.int .i64) _ 3 ?hg (N := 13) ?hd (xs := ([] : List Int)) (inner := []) (ok := fun _ => True) (okp := fun _ => True) ?hr ?hp (fun _ hk => hk) trivial (Below.refl _ _) (Nat.le_refl _) (by simp) ?_; (case hd => rfl); (case hg => rfl); (case hr => first | (go_simp; done) | (go_simp; rfl)); (case hp => exact (Reps.none _ _))
              intro v136 w16 ho17 hb hg_ hnew_
              clear hg_ hnew_
              (first | rw [← Ny135.out] at ho17 | (simp only [Int.reduceToNat] at ho17; rw [← Ny135.out] at ho17))
              have n0_ := mk (Kd.R_elder' HO125.out (Kd.R_base ho17) hb); have n1_ := mk (Kd.R_elder' HO131.out (Kd.R_base ho17) hb); have HO137 := mk (Kd.R_lower (Kd.R_new' (Kd.R_new' ho17 (Kd.R_lt HO125.out)) (Kd.R_lt HO131.out)) (below_size HB.out)); have n3_ := mk (blk_below BK121.out hb); have n4_ := mk (blk_below BK122.out hb); have n5_ := mk (below_step HB.out hb); replace HO125 := n0_; replace HO131 := n1_; replace BK121 := n3_; replace BK122 := n4_; replace HB := n5_; clear n0_ n1_ n3_ n4_ n5_; clear hb ho17
              refine hK.out _ _ ⟨(blk_cell BK121.out 0).trans rfl, (blk_cell BK121.out 1).trans rfl, (blk_cell BK122.out 0).trans rfl, (blk_cell BK122.out 1).trans rfl⟩ (fun hHeld => ?_)
              clear hK K
              refine norm_ (a' := ?_) ?_ ?_
              rotate_left
              · show Act.put _ (some 13) _ = _
                simp only [Act.put, List.setIfInBounds_toArray, List.set_cons_zero, List.set_cons_succ, i64_w, i32_w]
                rfl
              exact norm_ (by first | (simp only [putAll, Act.put, List.setIfInBounds_toArray, List.set_cons_zero, List.set_cons_succ]; done) | (simp only [putAll, Act.put, List.setIfInBounds_toArray, List.set_cons_zero, List.set_cons_succ]; rfl)) (hJ0_6_8 (v124, v130, v136) _ ⟨hHeld, HO125.out, HO131.out, (by exact Kd.R_mono HO137.out (fun _ hk => ⟨hk.1.2, hk.2⟩)), BK121.out, BK122.out, HB.out⟩)
            · skip
              refine Kd.R_lit_step (Kd.int .i64) _ 3 ?hg (N := 19) ?hd (xs := ([a1_1] : List Int)) (inner := [.int .i64 a1_1]) (ok := fun _ => True) (okp := fun _ => True) ?hr ?hp (fun _ hk => hk) trivial (Below.refl _ _) (Nat.le_refl _) (by simp) ?_; (case hd => rfl); (case hg => rfl); (case hr => first | (go_simp; done) | (go_simp; rfl)); (case hp => exact (Reps.one (show Kd.M (Kd.int .i64) _ _ _ a1_1 [.int .i64 a1_1] from rfl) (Reps.none _ _)))
              intro v142 w16 ho17 hb hg_ hnew_
              clear hg_ hnew_
              (first | rw [← Ny141.out] at ho17 | (simp only [Int.reduceToNat] at ho17; rw [← Ny141.out] at ho17))
              have n0_ := mk (Kd.R_elder' HO125.out (Kd.R_base ho17) hb); have n1_ := mk (Kd.R_elder' HO131.out (Kd.R_base ho17) hb); have HO143 := mk (Kd.R_lower (Kd.R_new' (Kd.R_new' ho17 (Kd.R_lt HO125.out)) (Kd.R_lt HO131.out)) (below_size HB.out)); have n3_ := mk (blk_below BK121.out hb); have n4_ := mk (blk_below BK122.out hb); have n5_ := mk (below_step HB.out hb); replace HO125 := n0_; replace HO131 := n1_; replace BK121 := n3_; replace BK122 := n4_; replace HB := n5_; clear n0_ n1_ n3_ n4_ n5_; clear hb ho17
              refine hK.out _ _ ⟨(blk_cell BK121.out 0).trans rfl, (blk_cell BK121.out 1).trans rfl, (blk_cell BK122.out 0).trans rfl, (blk_cell BK122.out 1).trans rfl⟩ (fun hHeld => ?_)
              clear hK K
              refine norm_ (a' := ?_) ?_ ?_
              rotate_left
              · show Act.put _ (some 19) _ = _
                simp only [Act.put, List.setIfInBounds_toArray, List.set_cons_zero, List.set_cons_succ, i64_w, i32_w]
                rfl
              exact norm_ (by first | (simp only [putAll, Act.put, List.setIfInBounds_toArray, List.set_cons_zero, List.set_cons_succ]; done) | (simp only [putAll, Act.put, List.setIfInBounds_toArray, List.set_cons_zero, List.set_cons_succ]; rfl)) (hJ0_6_14 (v124, v130, v142) _ ⟨hHeld, HO125.out, HO131.out, (by exact Kd.R_mono HO143.out (fun _ hk => ⟨hk.1.2, hk.2⟩)), BK121.out, BK122.out, HB.out⟩)
          intro hJ0_6
          refine join_ (σ := Value × Value) 8 #[true, true, true, false, true, true, false, false, true, true, true, false, true, true, false, false, false, false] (fun s_ => [(5, s_.1), (13, s_.2)]) (fun s_ w' => (w'.cell? ⟨gb121, 0, none⟩ = some (.slice A0_0 l0_0.length c0_0) ∧ w'.cell? ⟨gb121, 1, none⟩ = some (.int .i64 a0_1) ∧ w'.cell? ⟨gb122, 0, none⟩ = some (.slice A1_0 l1_0.length c1_0) ∧ w'.cell? ⟨gb122, 1, none⟩ = some (.int .i64 a1_1)) ∧ (Kd.R (Kd.int .i64) 3 w' w.heap.size (fun k_ => some k_ ≠ (s_.2 : Value).ownBlock) s_.1 y123) ∧ (Kd.R (Kd.int .i64) 3 w' w.heap.size (fun k_ => some k_ ≠ (s_.1 : Value).ownBlock) s_.2 y135) ∧ (w'.heap[gb121]? = some (.cells #[.slice A0_0 l0_0.length c0_0, .int .i64 a0_1] 24 (0, 0))) ∧ (w'.heap[gb122]? = some (.cells #[.slice A1_0 l1_0.length c1_0, .int .i64 a1_1] 24 (0, 0))) ∧ (Below w.heap.size w w')) ?_ ?_
          · skip
            rintro ⟨v124, v136⟩ w15 ⟨hS_, h0_, h1_, h2_, h3_, h4_⟩
            have n0_ : Aside0 (Kd.R (Kd.int .i64) 3 w15 w.heap.size (fun k_ => some k_ ≠ (v136 : Value).ownBlock) v124 y123) := ⟨h0_⟩; have n1_ : Aside0 (Kd.R (Kd.int .i64) 3 w15 w.heap.size (fun k_ => some k_ ≠ (v124 : Value).ownBlock) v136 y135) := ⟨h1_⟩; have n2_ : Aside0 (w15.heap[gb121]? = some (.cells #[.slice A0_0 l0_0.length c0_0, .int .i64 a0_1] 24 (0, 0))) := ⟨h2_⟩; have n3_ : Aside0 (w15.heap[gb122]? = some (.cells #[.slice A1_0 l1_0.length c1_0, .int .i64 a1_1] 24 (0, 0))) := ⟨h3_⟩; have n4_ : Aside0 (Below w.heap.size w w15) := ⟨h4_⟩; clear BK121; clear BK122; clear HB; clear h0_ h1_ h2_ h3_ h4_; have HO125 := n0_; have HO137 := n1_; have BK121 := n2_; have BK122 := n3_; have HB := n4_; clear n0_ n1_ n2_ n3_ n4_
            have hHeld : w15.cell? ⟨gb121, 0, none⟩ = some (.slice A0_0 l0_0.length c0_0) ∧ w15.cell? ⟨gb121, 1, none⟩ = some (.int .i64 a0_1) ∧ w15.cell? ⟨gb122, 0, none⟩ = some (.slice A1_0 l1_0.length c1_0) ∧ w15.cell? ⟨gb122, 1, none⟩ = some (.int .i64 a1_1) := hS_
            refine norm_ (a' := ?_) ?_ ?_
            rotate_left
            · simp only [putAll, Act.put, List.setIfInBounds_toArray, List.set_cons_zero, List.set_cons_succ]
              rfl
            refine three_ (i := 3) (j := 6) (k := 14) (Ni := some 8) (Nj := some 11) (Nk := some 19) #[true, true, true, true, true, true, false, false, true, true, true, false, true, true, false, false, false, false] #[true, true, true, false, true, true, true, false, true, true, true, false, true, true, false, false, false, false] #[true, true, true, false, true, true, false, false, true, true, true, false, true, true, true, false, false, false] rfl rfl rfl rfl rfl rfl (three_of HT_.out (by kernel_rfl)) (by decide) (by decide) (by decide) (fun K hK => ?_) (fun K hK => ?_) (fun K hK => ?_)
            · skip
              refine Kd.R_append_rows_step (Kd.int .i64) (w0 := w) w.heap.size (by rfl) (.tmp 5) (.tmp 7) 22 3 (.int .i64 0) 8 rfl Try.underlying22 info3 rfl (by decide) (by omega) v124 y123 l0_0 _ _ _ (fun k_ => some k_ ≠ (v136 : Value).ownBlock) (fun _ => False) rfl rfl ?aO ?aR (fun _ _ h => h) (fun _ h => h.elim) ?aF ?aB ?aS ?aL ?_
              (case aR => repeat (first | exact (Kd.C_below HR0_0.out HB.out) | (with_reducible refine Kd.C_alloc ?_ _) | (with_reducible refine Kd.C_drewN ?_ _) | (with_reducible refine Kd.C_drew ?_)))
              (case aB => exact HB.out)
              (case aF => exact (fun k_ hk => Kd.fresh' (Kd.R_lt HO137.out) k_ hk))
              (case aO => exact HO125.out)
              (case aS => exact (below_size HB.out))
              (case aL => have := LMc3.out; omega)
              intro v127 w16 ho hb hg hat
              rw [← Ny126.out] at ho
              have n0_ := mk (blk_grown (g := gb121) (o := .cells #[.slice A0_0 l0_0.length c0_0, .int .i64 a0_1] 24 (0, 0)) BK121.out hg (Kd.R_ne HO125.out BK121.out (by decide))); have n1_ := mk (blk_grown (g := gb122) (o := .cells #[.slice A1_0 l1_0.length c1_0, .int .i64 a1_1] 24 (0, 0)) BK122.out hg (Kd.R_ne HO125.out BK122.out (by decide))); have n2_ := mk (Kd.R_after (ok := (fun _ => True)) (by exact Kd.R_mono HO137.out (fun _ hk => ⟨trivial, hk⟩)) hg hat); have n3_ := mk (hb); have HO128 := mk (ho); clear HO125; replace BK121 := n0_; replace BK122 := n1_; replace HO137 := n2_; replace HB := n3_; clear n0_ n1_ n2_ n3_; clear ho hb hg hat
              refine hK.out _ _ ⟨(blk_cell BK121.out 0).trans rfl, (blk_cell BK121.out 1).trans rfl, (blk_cell BK122.out 0).trans rfl, (blk_cell BK122.out 1).trans rfl⟩ (fun hHeld => ?_)
              clear hK K
              refine norm_ (a' := ?_) ?_ ?_
              rotate_left
              · show Act.put _ (some 8) _ = _
                simp only [Act.put, List.setIfInBounds_toArray, List.set_cons_zero, List.set_cons_succ, i64_w, i32_w]
                rfl
              exact norm_ (by first | (simp only [putAll, Act.put, List.setIfInBounds_toArray, List.set_cons_zero, List.set_cons_succ]; done) | (simp only [putAll, Act.put, List.setIfInBounds_toArray, List.set_cons_zero, List.set_cons_succ]; rfl)) (hJ0_3_8 (v124, v127, v136) _ ⟨hHeld, HO128.out, (by exact Kd.R_mono HO137.out (fun _ hk => hk.2)), BK121.out, BK122.out, HB.out⟩)
            · skip
              refine Kd.R_lit_step (Kd.int .i64) _ 3 ?hg (N := 11) ?hd (xs := ([a0_1] : List Int)) (inner := [.int .i64 a0_1]) (ok := fun _ => True) (okp := fun _ => True) ?hr ?hp (fun _ hk => hk) trivial (Below.refl _ _) (Nat.le_refl _) (by simp) ?_; (case hd => rfl); (case hg => rfl); (case hr => first | (go_simp; done) | (go_simp; rfl)); (case hp => exact (Reps.one (show Kd.M (Kd.int .i64) _ _ _ a0_1 [.int .i64 a0_1] from rfl) (Reps.none _ _)))
              intro v130 w16 ho17 hb hg_ hnew_
              clear hg_ hnew_
              (first | rw [← Ny129.out] at ho17 | (simp only [Int.reduceToNat] at ho17; rw [← Ny129.out] at ho17))
              have n0_ := mk (Kd.R_elder' HO125.out (Kd.R_base ho17) hb); have n1_ := mk (Kd.R_elder' HO137.out (Kd.R_base ho17) hb); have HO131 := mk (Kd.R_lower (Kd.R_new' (Kd.R_new' ho17 (Kd.R_lt HO125.out)) (Kd.R_lt HO137.out)) (below_size HB.out)); have n3_ := mk (blk_below BK121.out hb); have n4_ := mk (blk_below BK122.out hb); have n5_ := mk (below_step HB.out hb); replace HO125 := n0_; replace HO137 := n1_; replace BK121 := n3_; replace BK122 := n4_; replace HB := n5_; clear n0_ n1_ n3_ n4_ n5_; clear hb ho17
              refine hK.out _ _ ⟨(blk_cell BK121.out 0).trans rfl, (blk_cell BK121.out 1).trans rfl, (blk_cell BK122.out 0).trans rfl, (blk_cell BK122.out 1).trans rfl⟩ (fun hHeld => ?_)
              clear hK K
              refine norm_ (a' := ?_) ?_ ?_
              rotate_left
              · show Act.put _ (some 11) _ = _
                simp only [Act.put, List.setIfInBounds_toArray, List.set_cons_zero, List.set_cons_succ, i64_w, i32_w]
                rfl
              exact norm_ (by first | (simp only [putAll, Act.put, List.setIfInBounds_toArray, List.set_cons_zero, List.set_cons_succ]; done) | (simp only [putAll, Act.put, List.setIfInBounds_toArray, List.set_cons_zero, List.set_cons_succ]; rfl)) (hJ0_6_8 (v124, v130, v136) _ ⟨hHeld, (by exact Kd.R_mono HO125.out (fun _ hk => ⟨hk.2, hk.1⟩)), (by exact Kd.R_mono HO131.out (fun _ hk => ⟨hk.1.2, hk.2⟩)), HO137.out, BK121.out, BK122.out, HB.out⟩)
            · skip
              refine Kd.R_lit_step (Kd.int .i64) _ 3 ?hg (N := 19) ?hd (xs := ([a1_1] : List Int)) (inner := [.int .i64 a1_1]) (ok := fun _ => True) (okp := fun _ => True) ?hr ?hp (fun _ hk => hk) trivial (Below.refl _ _) (Nat.le_refl _) (by simp) ?_; (case hd => rfl); (case hg => rfl); (case hr => first | (go_simp; done) | (go_simp; rfl)); (case hp => exact (Reps.one (show Kd.M (Kd.int .i64) _ _ _ a1_1 [.int .i64 a1_1] from rfl) (Reps.none _ _)))
              intro v142 w16 ho17 hb hg_ hnew_
              clear hg_ hnew_
              (first | rw [← Ny141.out] at ho17 | (simp only [Int.reduceToNat] at ho17; rw [← Ny141.out] at ho17))
              have n0_ := mk (Kd.R_elder' HO125.out (Kd.R_base ho17) hb); have n1_ := mk (Kd.R_elder' HO137.out (Kd.R_base ho17) hb); have HO143 := mk (Kd.R_lower (Kd.R_new' (Kd.R_new' ho17 (Kd.R_lt HO125.out)) (Kd.R_lt HO137.out)) (below_size HB.out)); have n3_ := mk (blk_below BK121.out hb); have n4_ := mk (blk_below BK122.out hb); have n5_ := mk (below_step HB.out hb); replace HO125 := n0_; replace HO137 := n1_; replace BK121 := n3_; replace BK122 := n4_; replace HB := n5_; clear n0_ n1_ n3_ n4_ n5_; clear hb ho17
              refine hK.out _ _ ⟨(blk_cell BK121.out 0).trans rfl, (blk_cell BK121.out 1).trans rfl, (blk_cell BK122.out 0).trans rfl, (blk_cell BK122.out 1).trans rfl⟩ (fun hHeld => ?_)
              clear hK K
              refine norm_ (a' := ?_) ?_ ?_
              rotate_left
              · show Act.put _ (some 19) _ = _
                simp only [Act.put, List.setIfInBounds_toArray, List.set_cons_zero, List.set_cons_succ, i64_w, i32_w]
                rfl
              exact norm_ (by first | (simp only [putAll, Act.put, List.setIfInBounds_toArray, List.set_cons_zero, List.set_cons_succ]; done) | (simp only [putAll, Act.put, List.setIfInBounds_toArray, List.set_cons_zero, List.set_cons_succ]; rfl)) (hJ0_8_14 (v124, v136, v142) _ ⟨hHeld, HO125.out, HO137.out, (by exact Kd.R_mono HO143.out (fun _ hk => ⟨hk.1.2, hk.2⟩)), BK121.out, BK122.out, HB.out⟩)
          intro hJ0_8
          refine join_ (σ := Value × Value) 8 #[true, true, true, false, true, true, false, false, false, true, true, false, true, true, true, false, false, false] (fun s_ => [(5, s_.1), (19, s_.2)]) (fun s_ w' => (w'.cell? ⟨gb121, 0, none⟩ = some (.slice A0_0 l0_0.length c0_0) ∧ w'.cell? ⟨gb121, 1, none⟩ = some (.int .i64 a0_1) ∧ w'.cell? ⟨gb122, 0, none⟩ = some (.slice A1_0 l1_0.length c1_0) ∧ w'.cell? ⟨gb122, 1, none⟩ = some (.int .i64 a1_1)) ∧ (Kd.R (Kd.int .i64) 3 w' w.heap.size (fun k_ => some k_ ≠ (s_.2 : Value).ownBlock) s_.1 y123) ∧ (Kd.R (Kd.int .i64) 3 w' w.heap.size (fun k_ => some k_ ≠ (s_.1 : Value).ownBlock) s_.2 y141) ∧ (w'.heap[gb121]? = some (.cells #[.slice A0_0 l0_0.length c0_0, .int .i64 a0_1] 24 (0, 0))) ∧ (w'.heap[gb122]? = some (.cells #[.slice A1_0 l1_0.length c1_0, .int .i64 a1_1] 24 (0, 0))) ∧ (Below w.heap.size w w')) ?_ ?_
          · skip
            rintro ⟨v124, v142⟩ w15 ⟨hS_, h0_, h1_, h2_, h3_, h4_⟩
            have n0_ : Aside0 (Kd.R (Kd.int .i64) 3 w15 w.heap.size (fun k_ => some k_ ≠ (v142 : Value).ownBlock) v124 y123) := ⟨h0_⟩; have n1_ : Aside0 (Kd.R (Kd.int .i64) 3 w15 w.heap.size (fun k_ => some k_ ≠ (v124 : Value).ownBlock) v142 y141) := ⟨h1_⟩; have n2_ : Aside0 (w15.heap[gb121]? = some (.cells #[.slice A0_0 l0_0.length c0_0, .int .i64 a0_1] 24 (0, 0))) := ⟨h2_⟩; have n3_ : Aside0 (w15.heap[gb122]? = some (.cells #[.slice A1_0 l1_0.length c1_0, .int .i64 a1_1] 24 (0, 0))) := ⟨h3_⟩; have n4_ : Aside0 (Below w.heap.size w w15) := ⟨h4_⟩; clear BK121; clear BK122; clear HB; clear h0_ h1_ h2_ h3_ h4_; have HO125 := n0_; have HO143 := n1_; have BK121 := n2_; have BK122 := n3_; have HB := n4_; clear n0_ n1_ n2_ n3_ n4_
            have hHeld : w15.cell? ⟨gb121, 0, none⟩ = some (.slice A0_0 l0_0.length c0_0) ∧ w15.cell? ⟨gb121, 1, none⟩ = some (.int .i64 a0_1) ∧ w15.cell? ⟨gb122, 0, none⟩ = some (.slice A1_0 l1_0.length c1_0) ∧ w15.cell? ⟨gb122, 1, none⟩ = some (.int .i64 a1_1) := hS_
            refine norm_ (a' := ?_) ?_ ?_
            rotate_left
            · simp only [putAll, Act.put, List.setIfInBounds_toArray, List.set_cons_zero, List.set_cons_succ]
              rfl
            refine three_ (i := 3) (j := 6) (k := 8) (Ni := some 8) (Nj := some 11) (Nk := some 13) #[true, true, true, true, true, true, false, false, false, true, true, false, true, true, true, false, false, false] #[true, true, true, false, true, true, true, false, false, true, true, false, true, true, true, false, false, false] #[true, true, true, false, true, true, false, false, true, true, true, false, true, true, true, false, false, false] rfl rfl rfl rfl rfl rfl (three_of HT_.out (by kernel_rfl)) (by decide) (by decide) (by decide) (fun K hK => ?_) (fun K hK => ?_) (fun K hK => ?_)
            · skip
              refine Kd.R_append_rows_step (Kd.int .i64) (w0 := w) w.heap.size (by rfl) (.tmp 5) (.tmp 7) 22 3 (.int .i64 0) 8 rfl Try.underlying22 info3 rfl (by decide) (by omega) v124 y123 l0_0 _ _ _ (fun k_ => some k_ ≠ (v142 : Value).ownBlock) (fun _ => False) rfl rfl ?aO ?aR (fun _ _ h => h) (fun _ h => h.elim) ?aF ?aB ?aS ?aL ?_
              (case aR => repeat (first | exact (Kd.C_below HR0_0.out HB.out) | (with_reducible refine Kd.C_alloc ?_ _) | (with_reducible refine Kd.C_drewN ?_ _) | (with_reducible refine Kd.C_drew ?_)))
              (case aB => exact HB.out)
              (case aF => exact (fun k_ hk => Kd.fresh' (Kd.R_lt HO143.out) k_ hk))
              (case aO => exact HO125.out)
              (case aS => exact (below_size HB.out))
              (case aL => have := LMc3.out; omega)
              intro v127 w16 ho hb hg hat
              rw [← Ny126.out] at ho
              have n0_ := mk (blk_grown (g := gb121) (o := .cells #[.slice A0_0 l0_0.length c0_0, .int .i64 a0_1] 24 (0, 0)) BK121.out hg (Kd.R_ne HO125.out BK121.out (by decide))); have n1_ := mk (blk_grown (g := gb122) (o := .cells #[.slice A1_0 l1_0.length c1_0, .int .i64 a1_1] 24 (0, 0)) BK122.out hg (Kd.R_ne HO125.out BK122.out (by decide))); have n2_ := mk (Kd.R_after (ok := (fun _ => True)) (by exact Kd.R_mono HO143.out (fun _ hk => ⟨trivial, hk⟩)) hg hat); have n3_ := mk (hb); have HO128 := mk (ho); clear HO125; replace BK121 := n0_; replace BK122 := n1_; replace HO143 := n2_; replace HB := n3_; clear n0_ n1_ n2_ n3_; clear ho hb hg hat
              refine hK.out _ _ ⟨(blk_cell BK121.out 0).trans rfl, (blk_cell BK121.out 1).trans rfl, (blk_cell BK122.out 0).trans rfl, (blk_cell BK122.out 1).trans rfl⟩ (fun hHeld => ?_)
              clear hK K
              refine norm_ (a' := ?_) ?_ ?_
              rotate_left
              · show Act.put _ (some 8) _ = _
                simp only [Act.put, List.setIfInBounds_toArray, List.set_cons_zero, List.set_cons_succ, i64_w, i32_w]
                rfl
              exact norm_ (by first | (simp only [putAll, Act.put, List.setIfInBounds_toArray, List.set_cons_zero, List.set_cons_succ]; done) | (simp only [putAll, Act.put, List.setIfInBounds_toArray, List.set_cons_zero, List.set_cons_succ]; rfl)) (hJ0_3_14 (v124, v127, v142) _ ⟨hHeld, HO128.out, (by exact Kd.R_mono HO143.out (fun _ hk => hk.2)), BK121.out, BK122.out, HB.out⟩)
            · skip
              refine Kd.R_lit_step (Kd.int .i64) _ 3 ?hg (N := 11) ?hd (xs := ([a0_1] : List Int)) (inner := [.int .i64 a0_1]) (ok := fun _ => True) (okp := fun _ => True) ?hr ?hp (fun _ hk => hk) trivial (Below.refl _ _) (Nat.le_refl _) (by simp) ?_; (case hd => rfl); (case hg => rfl); (case hr => first | (go_simp; done) | (go_simp; rfl)); (case hp => exact (Reps.one (show Kd.M (Kd.int .i64) _ _ _ a0_1 [.int .i64 a0_1] from rfl) (Reps.none _ _)))
              intro v130 w16 ho17 hb hg_ hnew_
              clear hg_ hnew_
              (first | rw [← Ny129.out] at ho17 | (simp only [Int.reduceToNat] at ho17; rw [← Ny129.out] at ho17))
              have n0_ := mk (Kd.R_elder' HO125.out (Kd.R_base ho17) hb); have n1_ := mk (Kd.R_elder' HO143.out (Kd.R_base ho17) hb); have HO131 := mk (Kd.R_lower (Kd.R_new' (Kd.R_new' ho17 (Kd.R_lt HO125.out)) (Kd.R_lt HO143.out)) (below_size HB.out)); have n3_ := mk (blk_below BK121.out hb); have n4_ := mk (blk_below BK122.out hb); have n5_ := mk (below_step HB.out hb); replace HO125 := n0_; replace HO143 := n1_; replace BK121 := n3_; replace BK122 := n4_; replace HB := n5_; clear n0_ n1_ n3_ n4_ n5_; clear hb ho17
              refine hK.out _ _ ⟨(blk_cell BK121.out 0).trans rfl, (blk_cell BK121.out 1).trans rfl, (blk_cell BK122.out 0).trans rfl, (blk_cell BK122.out 1).trans rfl⟩ (fun hHeld => ?_)
              clear hK K
              refine norm_ (a' := ?_) ?_ ?_
              rotate_left
              · show Act.put _ (some 11) _ = _
                simp only [Act.put, List.setIfInBounds_toArray, List.set_cons_zero, List.set_cons_succ, i64_w, i32_w]
                rfl
              exact norm_ (by first | (simp only [putAll, Act.put, List.setIfInBounds_toArray, List.set_cons_zero, List.set_cons_succ]; done) | (simp only [putAll, Act.put, List.setIfInBounds_toArray, List.set_cons_zero, List.set_cons_succ]; rfl)) (hJ0_6_14 (v124, v130, v142) _ ⟨hHeld, (by exact Kd.R_mono HO125.out (fun _ hk => ⟨hk.2, hk.1⟩)), (by exact Kd.R_mono HO131.out (fun _ hk => ⟨hk.1.2, hk.2⟩)), HO143.out, BK121.out, BK122.out, HB.out⟩)
            · skip
              refine Kd.R_lit_step (Kd.int .i64) _ 3 ?hg (N := 13) ?hd (xs := ([] : List Int)) (inner := []) (ok := fun _ => True) (okp := fun _ => True) ?hr ?hp (fun _ hk => hk) trivial (Below.refl _ _) (Nat.le_refl _) (by simp) ?_; (case hd => rfl); (case hg => rfl); (case hr => first | (go_simp; done) | (go_simp; rfl)); (case hp => exact (Reps.none _ _))
              intro v136 w16 ho17 hb hg_ hnew_
              clear hg_ hnew_
              (first | rw [← Ny135.out] at ho17 | (simp only [Int.reduceToNat] at ho17; rw [← Ny135.out] at ho17))
              have n0_ := mk (Kd.R_elder' HO125.out (Kd.R_base ho17) hb); have n1_ := mk (Kd.R_elder' HO143.out (Kd.R_base ho17) hb); have HO137 := mk (Kd.R_lower (Kd.R_new' (Kd.R_new' ho17 (Kd.R_lt HO125.out)) (Kd.R_lt HO143.out)) (below_size HB.out)); have n3_ := mk (blk_below BK121.out hb); have n4_ := mk (blk_below BK122.out hb); have n5_ := mk (below_step HB.out hb); replace HO125 := n0_; replace HO143 := n1_; replace BK121 := n3_; replace BK122 := n4_; replace HB := n5_; clear n0_ n1_ n3_ n4_ n5_; clear hb ho17
              refine hK.out _ _ ⟨(blk_cell BK121.out 0).trans rfl, (blk_cell BK121.out 1).trans rfl, (blk_cell BK122.out 0).trans rfl, (blk_cell BK122.out 1).trans rfl⟩ (fun hHeld => ?_)
              clear hK K
              refine norm_ (a' := ?_) ?_ ?_
              rotate_left
              · show Act.put _ (some 13) _ = _
                simp only [Act.put, List.setIfInBounds_toArray, List.set_cons_zero, List.set_cons_succ, i64_w, i32_w]
                rfl
              exact norm_ (by first | (simp only [putAll, Act.put, List.setIfInBounds_toArray, List.set_cons_zero, List.set_cons_succ]; done) | (simp only [putAll, Act.put, List.setIfInBounds_toArray, List.set_cons_zero, List.set_cons_succ]; rfl)) (hJ0_8_14 (v124, v136, v142) _ ⟨hHeld, (by exact Kd.R_mono HO125.out (fun _ hk => ⟨hk.2, hk.1⟩)), (by exact Kd.R_mono HO137.out (fun _ hk => ⟨hk.1.2, hk.2⟩)), HO143.out, BK121.out, BK122.out, HB.out⟩)
          intro hJ0_14
          refine join_ (σ := Value × Value) 8 #[false, true, true, false, true, true, true, false, true, true, true, false, true, true, false, false, false, false] (fun s_ => [(11, s_.1), (13, s_.2)]) (fun s_ w' => (w'.cell? ⟨gb121, 0, none⟩ = some (.slice A0_0 l0_0.length c0_0) ∧ w'.cell? ⟨gb121, 1, none⟩ = some (.int .i64 a0_1) ∧ w'.cell? ⟨gb122, 0, none⟩ = some (.slice A1_0 l1_0.length c1_0) ∧ w'.cell? ⟨gb122, 1, none⟩ = some (.int .i64 a1_1)) ∧ (Kd.R (Kd.int .i64) 3 w' w.heap.size (fun k_ => some k_ ≠ (s_.2 : Value).ownBlock) s_.1 y129) ∧ (Kd.R (Kd.int .i64) 3 w' w.heap.size (fun k_ => some k_ ≠ (s_.1 : Value).ownBlock) s_.2 y135) ∧ (w'.heap[gb121]? = some (.cells #[.slice A0_0 l0_0.length c0_0, .int .i64 a0_1] 24 (0, 0))) ∧ (w'.heap[gb122]? = some (.cells #[.slice A1_0 l1_0.length c1_0, .int .i64 a1_1] 24 (0, 0))) ∧ (Below w.heap.size w w')) ?_ ?_
          · skip
            rintro ⟨v130, v136⟩ w15 ⟨hS_, h0_, h1_, h2_, h3_, h4_⟩
            have n0_ : Aside0 (Kd.R (Kd.int .i64) 3 w15 w.heap.size (fun k_ => some k_ ≠ (v136 : Value).ownBlock) v130 y129) := ⟨h0_⟩; have n1_ : Aside0 (Kd.R (Kd.int .i64) 3 w15 w.heap.size (fun k_ => some k_ ≠ (v130 : Value).ownBlock) v136 y135) := ⟨h1_⟩; have n2_ : Aside0 (w15.heap[gb121]? = some (.cells #[.slice A0_0 l0_0.length c0_0, .int .i64 a0_1] 24 (0, 0))) := ⟨h2_⟩; have n3_ : Aside0 (w15.heap[gb122]? = some (.cells #[.slice A1_0 l1_0.length c1_0, .int .i64 a1_1] 24 (0, 0))) := ⟨h3_⟩; have n4_ : Aside0 (Below w.heap.size w w15) := ⟨h4_⟩; clear BK121; clear BK122; clear HB; clear h0_ h1_ h2_ h3_ h4_; have HO131 := n0_; have HO137 := n1_; have BK121 := n2_; have BK122 := n3_; have HB := n4_; clear n0_ n1_ n2_ n3_ n4_
            have hHeld : w15.cell? ⟨gb121, 0, none⟩ = some (.slice A0_0 l0_0.length c0_0) ∧ w15.cell? ⟨gb121, 1, none⟩ = some (.int .i64 a0_1) ∧ w15.cell? ⟨gb122, 0, none⟩ = some (.slice A1_0 l1_0.length c1_0) ∧ w15.cell? ⟨gb122, 1, none⟩ = some (.int .i64 a1_1) := hS_
            refine norm_ (a' := ?_) ?_ ?_
            rotate_left
            · simp only [putAll, Act.put, List.setIfInBounds_toArray, List.set_cons_zero, List.set_cons_succ]
              rfl
            refine two_ (i := 0) (j := 14) (Ni := some 5) (Nj := some 19) #[true, true, true, false, true, true, true, false, true, true, true, false, true, true, false, false, false, false] #[false, true, true, false, true, true, true, false, true, true, true, false, true, true, true, false, false, false] rfl rfl rfl rfl (two_of HT_.out (by kernel_rfl)) (by decide) (by decide) (fun K hK => ?_) (fun K hK => ?_)
            · skip
              refine Kd.R_lit_step (Kd.int .i64) _ 3 ?hg (N := 5) ?hd (xs := ([] : List Int)) (inner := []) (ok := fun _ => True) (okp := fun _ => True) ?hr ?hp (fun _ hk => hk) trivial (Below.refl _ _) (Nat.le_refl _) (by simp) ?_; (case hd => rfl); (case hg => rfl); (case hr => first | (go_simp; done) | (go_simp; rfl)); (case hp => exact (Reps.none _ _))
              intro v124 w16 ho17 hb hg_ hnew_
              clear hg_ hnew_
              (first | rw [← Ny123.out] at ho17 | (simp only [Int.reduceToNat] at ho17; rw [← Ny123.out] at ho17))
              have n0_ := mk (Kd.R_elder' HO131.out (Kd.R_base ho17) hb); have n1_ := mk (Kd.R_elder' HO137.out (Kd.R_base ho17) hb); have HO125 := mk (Kd.R_lower (Kd.R_new' (Kd.R_new' ho17 (Kd.R_lt HO131.out)) (Kd.R_lt HO137.out)) (below_size HB.out)); have n3_ := mk (blk_below BK121.out hb); have n4_ := mk (blk_below BK122.out hb); have n5_ := mk (below_step HB.out hb); replace HO131 := n0_; replace HO137 := n1_; replace BK121 := n3_; replace BK122 := n4_; replace HB := n5_; clear n0_ n1_ n3_ n4_ n5_; clear hb ho17
              refine hK.out _ _ ⟨(blk_cell BK121.out 0).trans rfl, (blk_cell BK121.out 1).trans rfl, (blk_cell BK122.out 0).trans rfl, (blk_cell BK122.out 1).trans rfl⟩ (fun hHeld => ?_)
              clear hK K
              refine norm_ (a' := ?_) ?_ ?_
              rotate_left
              · show Act.put _ (some 5) _ = _
                simp only [Act.put, List.setIfInBounds_toArray, List.set_cons_zero, List.set_cons_succ, i64_w, i32_w]
                rfl
              exact norm_ (by first | (simp only [putAll, Act.put, List.setIfInBounds_toArray, List.set_cons_zero, List.set_cons_succ]; done) | (simp only [putAll, Act.put, List.setIfInBounds_toArray, List.set_cons_zero, List.set_cons_succ]; rfl)) (hJ0_6_8 (v124, v130, v136) _ ⟨hHeld, (by exact Kd.R_mono HO125.out (fun _ hk => ⟨hk.1.2, hk.2⟩)), (by exact Kd.R_mono HO131.out (fun _ hk => ⟨hk.2, hk.1⟩)), (by exact Kd.R_mono HO137.out (fun _ hk => ⟨hk.2, hk.1⟩)), BK121.out, BK122.out, HB.out⟩)
            · skip
              refine Kd.R_lit_step (Kd.int .i64) _ 3 ?hg (N := 19) ?hd (xs := ([a1_1] : List Int)) (inner := [.int .i64 a1_1]) (ok := fun _ => True) (okp := fun _ => True) ?hr ?hp (fun _ hk => hk) trivial (Below.refl _ _) (Nat.le_refl _) (by simp) ?_; (case hd => rfl); (case hg => rfl); (case hr => first | (go_simp; done) | (go_simp; rfl)); (case hp => exact (Reps.one (show Kd.M (Kd.int .i64) _ _ _ a1_1 [.int .i64 a1_1] from rfl) (Reps.none _ _)))
              intro v142 w16 ho17 hb hg_ hnew_
              clear hg_ hnew_
              (first | rw [← Ny141.out] at ho17 | (simp only [Int.reduceToNat] at ho17; rw [← Ny141.out] at ho17))
              have n0_ := mk (Kd.R_elder' HO131.out (Kd.R_base ho17) hb); have n1_ := mk (Kd.R_elder' HO137.out (Kd.R_base ho17) hb); have HO143 := mk (Kd.R_lower (Kd.R_new' (Kd.R_new' ho17 (Kd.R_lt HO131.out)) (Kd.R_lt HO137.out)) (below_size HB.out)); have n3_ := mk (blk_below BK121.out hb); have n4_ := mk (blk_below BK122.out hb); have n5_ := mk (below_step HB.out hb); replace HO131 := n0_; replace HO137 := n1_; replace BK121 := n3_; replace BK122 := n4_; replace HB := n5_; clear n0_ n1_ n3_ n4_ n5_; clear hb ho17
              refine hK.out _ _ ⟨(blk_cell BK121.out 0).trans rfl, (blk_cell BK121.out 1).trans rfl, (blk_cell BK122.out 0).trans rfl, (blk_cell BK122.out 1).trans rfl⟩ (fun hHeld => ?_)
              clear hK K
              refine norm_ (a' := ?_) ?_ ?_
              rotate_left
              · show Act.put _ (some 19) _ = _
                simp only [Act.put, List.setIfInBounds_toArray, List.set_cons_zero, List.set_cons_succ, i64_w, i32_w]
                rfl
              exact norm_ (by first | (simp only [putAll, Act.put, List.setIfInBounds_toArray, List.set_cons_zero, List.set_cons_succ]; done) | (simp only [putAll, Act.put, List.setIfInBounds_toArray, List.set_cons_zero, List.set_cons_succ]; rfl)) (hJ6_8_14 (v130, v136, v142) _ ⟨hHeld, HO131.out, HO137.out, (by exact Kd.R_mono HO143.out (fun _ hk => ⟨hk.1.2, hk.2⟩)), BK121.out, BK122.out, HB.out⟩)
          intro hJ6_8
          refine join_ (σ := Value × Value) 8 #[false, true, true, false, true, true, true, false, false, true, true, false, true, true, true, false, false, false] (fun s_ => [(11, s_.1), (19, s_.2)]) (fun s_ w' => (w'.cell? ⟨gb121, 0, none⟩ = some (.slice A0_0 l0_0.length c0_0) ∧ w'.cell? ⟨gb121, 1, none⟩ = some (.int .i64 a0_1) ∧ w'.cell? ⟨gb122, 0, none⟩ = some (.slice A1_0 l1_0.length c1_0) ∧ w'.cell? ⟨gb122, 1, none⟩ = some (.int .i64 a1_1)) ∧ (Kd.R (Kd.int .i64) 3 w' w.heap.size (fun k_ => some k_ ≠ (s_.2 : Value).ownBlock) s_.1 y129) ∧ (Kd.R (Kd.int .i64) 3 w' w.heap.size (fun k_ => some k_ ≠ (s_.1 : Value).ownBlock) s_.2 y141) ∧ (w'.heap[gb121]? = some (.cells #[.slice A0_0 l0_0.length c0_0, .int .i64 a0_1] 24 (0, 0))) ∧ (w'.heap[gb122]? = some (.cells #[.slice A1_0 l1_0.length c1_0, .int .i64 a1_1] 24 (0, 0))) ∧ (Below w.heap.size w w')) ?_ ?_
          · skip
            rintro ⟨v130, v142⟩ w15 ⟨hS_, h0_, h1_, h2_, h3_, h4_⟩
            have n0_ : Aside0 (Kd.R (Kd.int .i64) 3 w15 w.heap.size (fun k_ => some k_ ≠ (v142 : Value).ownBlock) v130 y129) := ⟨h0_⟩; have n1_ : Aside0 (Kd.R (Kd.int .i64) 3 w15 w.heap.size (fun k_ => some k_ ≠ (v130 : Value).ownBlock) v142 y141) := ⟨h1_⟩; have n2_ : Aside0 (w15.heap[gb121]? = some (.cells #[.slice A0_0 l0_0.length c0_0, .int .i64 a0_1] 24 (0, 0))) := ⟨h2_⟩; have n3_ : Aside0 (w15.heap[gb122]? = some (.cells #[.slice A1_0 l1_0.length c1_0, .int .i64 a1_1] 24 (0, 0))) := ⟨h3_⟩; have n4_ : Aside0 (Below w.heap.size w w15) := ⟨h4_⟩; clear BK121; clear BK122; clear HB; clear h0_ h1_ h2_ h3_ h4_; have HO131 := n0_; have HO143 := n1_; have BK121 := n2_; have BK122 := n3_; have HB := n4_; clear n0_ n1_ n2_ n3_ n4_
            have hHeld : w15.cell? ⟨gb121, 0, none⟩ = some (.slice A0_0 l0_0.length c0_0) ∧ w15.cell? ⟨gb121, 1, none⟩ = some (.int .i64 a0_1) ∧ w15.cell? ⟨gb122, 0, none⟩ = some (.slice A1_0 l1_0.length c1_0) ∧ w15.cell? ⟨gb122, 1, none⟩ = some (.int .i64 a1_1) := hS_
            refine norm_ (a' := ?_) ?_ ?_
            rotate_left
            · simp only [putAll, Act.put, List.setIfInBounds_toArray, List.set_cons_zero, List.set_cons_succ]
              rfl
            refine two_ (i := 0) (j := 8) (Ni := some 5) (Nj := some 13) #[true, true, true, false, true, true, true, false, false, true, true, false, true, true, true, false, false, false] #[false, true, true, false, true, true, true, false, true, true, true, false, true, true, true, false, false, false] rfl rfl rfl rfl (two_of HT_.out (by kernel_rfl)) (by decide) (by decide) (fun K hK => ?_) (fun K hK => ?_)
            · skip
              refine Kd.R_lit_step (Kd.int .i64) _ 3 ?hg (N := 5) ?hd (xs := ([] : List Int)) (inner := []) (ok := fun _ => True) (okp := fun _ => True) ?hr ?hp (fun _ hk => hk) trivial (Below.refl _ _) (Nat.le_refl _) (by simp) ?_; (case hd => rfl); (case hg => rfl); (case hr => first | (go_simp; done) | (go_simp; rfl)); (case hp => exact (Reps.none _ _))
              intro v124 w16 ho17 hb hg_ hnew_
              clear hg_ hnew_
              (first | rw [← Ny123.out] at ho17 | (simp only [Int.reduceToNat] at ho17; rw [← Ny123.out] at ho17))
              have n0_ := mk (Kd.R_elder' HO131.out (Kd.R_base ho17) hb); have n1_ := mk (Kd.R_elder' HO143.out (Kd.R_base ho17) hb); have HO125 := mk (Kd.R_lower (Kd.R_new' (Kd.R_new' ho17 (Kd.R_lt HO131.out)) (Kd.R_lt HO143.out)) (below_size HB.out)); have n3_ := mk (blk_below BK121.out hb); have n4_ := mk (blk_below BK122.out hb); have n5_ := mk (below_step HB.out hb); replace HO131 := n0_; replace HO143 := n1_; replace BK121 := n3_; replace BK122 := n4_; replace HB := n5_; clear n0_ n1_ n3_ n4_ n5_; clear hb ho17
              refine hK.out _ _ ⟨(blk_cell BK121.out 0).trans rfl, (blk_cell BK121.out 1).trans rfl, (blk_cell BK122.out 0).trans rfl, (blk_cell BK122.out 1).trans rfl⟩ (fun hHeld => ?_)
              clear hK K
              refine norm_ (a' := ?_) ?_ ?_
              rotate_left
              · show Act.put _ (some 5) _ = _
                simp only [Act.put, List.setIfInBounds_toArray, List.set_cons_zero, List.set_cons_succ, i64_w, i32_w]
                rfl
              exact norm_ (by first | (simp only [putAll, Act.put, List.setIfInBounds_toArray, List.set_cons_zero, List.set_cons_succ]; done) | (simp only [putAll, Act.put, List.setIfInBounds_toArray, List.set_cons_zero, List.set_cons_succ]; rfl)) (hJ0_6_14 (v124, v130, v142) _ ⟨hHeld, (by exact Kd.R_mono HO125.out (fun _ hk => ⟨hk.1.2, hk.2⟩)), (by exact Kd.R_mono HO131.out (fun _ hk => ⟨hk.2, hk.1⟩)), (by exact Kd.R_mono HO143.out (fun _ hk => ⟨hk.2, hk.1⟩)), BK121.out, BK122.out, HB.out⟩)
            · skip
              refine Kd.R_lit_step (Kd.int .i64) _ 3 ?hg (N := 13) ?hd (xs := ([] : List Int)) (inner := []) (ok := fun _ => True) (okp := fun _ => True) ?hr ?hp (fun _ hk => hk) trivial (Below.refl _ _) (Nat.le_refl _) (by simp) ?_; (case hd => rfl); (case hg => rfl); (case hr => first | (go_simp; done) | (go_simp; rfl)); (case hp => exact (Reps.none _ _))
              intro v136 w16 ho17 hb hg_ hnew_
              clear hg_ hnew_
              (first | rw [← Ny135.out] at ho17 | (simp only [Int.reduceToNat] at ho17; rw [← Ny135.out] at ho17))
              have n0_ := mk (Kd.R_elder' HO131.out (Kd.R_base ho17) hb); have n1_ := mk (Kd.R_elder' HO143.out (Kd.R_base ho17) hb); have HO137 := mk (Kd.R_lower (Kd.R_new' (Kd.R_new' ho17 (Kd.R_lt HO131.out)) (Kd.R_lt HO143.out)) (below_size HB.out)); have n3_ := mk (blk_below BK121.out hb); have n4_ := mk (blk_below BK122.out hb); have n5_ := mk (below_step HB.out hb); replace HO131 := n0_; replace HO143 := n1_; replace BK121 := n3_; replace BK122 := n4_; replace HB := n5_; clear n0_ n1_ n3_ n4_ n5_; clear hb ho17
              refine hK.out _ _ ⟨(blk_cell BK121.out 0).trans rfl, (blk_cell BK121.out 1).trans rfl, (blk_cell BK122.out 0).trans rfl, (blk_cell BK122.out 1).trans rfl⟩ (fun hHeld => ?_)
              clear hK K
              refine norm_ (a' := ?_) ?_ ?_
              rotate_left
              · show Act.put _ (some 13) _ = _
                simp only [Act.put, List.setIfInBounds_toArray, List.set_cons_zero, List.set_cons_succ, i64_w, i32_w]
                rfl
              exact norm_ (by first | (simp only [putAll, Act.put, List.setIfInBounds_toArray, List.set_cons_zero, List.set_cons_succ]; done) | (simp only [putAll, Act.put, List.setIfInBounds_toArray, List.set_cons_zero, List.set_cons_succ]; rfl)) (hJ6_8_14 (v130, v136, v142) _ ⟨hHeld, (by exact Kd.R_mono HO131.out (fun _ hk => ⟨hk.2, hk.1⟩)), (by exact Kd.R_mono HO137.out (fun _ hk => ⟨hk.1.2, hk.2⟩)), HO143.out, BK121.out, BK122.out, HB.out⟩)
          intro hJ6_14
          refine join_ (σ := Value × Value) 8 #[false, true, true, false, true, true, false, false, true, true, true, false, true, true, true, false, false, false] (fun s_ => [(13, s_.1), (19, s_.2)]) (fun s_ w' => (w'.cell? ⟨gb121, 0, none⟩ = some (.slice A0_0 l0_0.length c0_0) ∧ w'.cell? ⟨gb121, 1, none⟩ = some (.int .i64 a0_1) ∧ w'.cell? ⟨gb122, 0, none⟩ = some (.slice A1_0 l1_0.length c1_0) ∧ w'.cell? ⟨gb122, 1, none⟩ = some (.int .i64 a1_1)) ∧ (Kd.R (Kd.int .i64) 3 w' w.heap.size (fun k_ => some k_ ≠ (s_.2 : Value).ownBlock) s_.1 y135) ∧ (Kd.R (Kd.int .i64) 3 w' w.heap.size (fun k_ => some k_ ≠ (s_.1 : Value).ownBlock) s_.2 y141) ∧ (w'.heap[gb121]? = some (.cells #[.slice A0_0 l0_0.length c0_0, .int .i64 a0_1] 24 (0, 0))) ∧ (w'.heap[gb122]? = some (.cells #[.slice A1_0 l1_0.length c1_0, .int .i64 a1_1] 24 (0, 0))) ∧ (Below w.heap.size w w')) ?_ ?_
          · skip
            rintro ⟨v136, v142⟩ w15 ⟨hS_, h0_, h1_, h2_, h3_, h4_⟩
            have n0_ : Aside0 (Kd.R (Kd.int .i64) 3 w15 w.heap.size (fun k_ => some k_ ≠ (v142 : Value).ownBlock) v136 y135) := ⟨h0_⟩; have n1_ : Aside0 (Kd.R (Kd.int .i64) 3 w15 w.heap.size (fun k_ => some k_ ≠ (v136 : Value).ownBlock) v142 y141) := ⟨h1_⟩; have n2_ : Aside0 (w15.heap[gb121]? = some (.cells #[.slice A0_0 l0_0.length c0_0, .int .i64 a0_1] 24 (0, 0))) := ⟨h2_⟩; have n3_ : Aside0 (w15.heap[gb122]? = some (.cells #[.slice A1_0 l1_0.length c1_0, .int .i64 a1_1] 24 (0, 0))) := ⟨h3_⟩; have n4_ : Aside0 (Below w.heap.size w w15) := ⟨h4_⟩; clear BK121; clear BK122; clear HB; clear h0_ h1_ h2_ h3_ h4_; have HO137 := n0_; have HO143 := n1_; have BK121 := n2_; have BK122 := n3_; have HB := n4_; clear n0_ n1_ n2_ n3_ n4_
            have hHeld : w15.cell? ⟨gb121, 0, none⟩ = some (.slice A0_0 l0_0.length c0_0) ∧ w15.cell? ⟨gb121, 1, none⟩ = some (.int .i64 a0_1) ∧ w15.cell? ⟨gb122, 0, none⟩ = some (.slice A1_0 l1_0.length c1_0) ∧ w15.cell? ⟨gb122, 1, none⟩ = some (.int .i64 a1_1) := hS_
            refine norm_ (a' := ?_) ?_ ?_
            rotate_left
            · simp only [putAll, Act.put, List.setIfInBounds_toArray, List.set_cons_zero, List.set_cons_succ]
              rfl
            refine two_ (i := 0) (j := 6) (Ni := some 5) (Nj := some 11) #[true, true, true, false, true, true, false, false, true, true, true, false, true, true, true, false, false, false] #[false, true, true, false, true, true, true, false, true, true, true, false, true, true, true, false, false, false] rfl rfl rfl rfl (two_of HT_.out (by kernel_rfl)) (by decide) (by decide) (fun K hK => ?_) (fun K hK => ?_)
            · skip
              refine Kd.R_lit_step (Kd.int .i64) _ 3 ?hg (N := 5) ?hd (xs := ([] : List Int)) (inner := []) (ok := fun _ => True) (okp := fun _ => True) ?hr ?hp (fun _ hk => hk) trivial (Below.refl _ _) (Nat.le_refl _) (by simp) ?_; (case hd => rfl); (case hg => rfl); (case hr => first | (go_simp; done) | (go_simp; rfl)); (case hp => exact (Reps.none _ _))
              intro v124 w16 ho17 hb hg_ hnew_
              clear hg_ hnew_
              (first | rw [← Ny123.out] at ho17 | (simp only [Int.reduceToNat] at ho17; rw [← Ny123.out] at ho17))
              have n0_ := mk (Kd.R_elder' HO137.out (Kd.R_base ho17) hb); have n1_ := mk (Kd.R_elder' HO143.out (Kd.R_base ho17) hb); have HO125 := mk (Kd.R_lower (Kd.R_new' (Kd.R_new' ho17 (Kd.R_lt HO137.out)) (Kd.R_lt HO143.out)) (below_size HB.out)); have n3_ := mk (blk_below BK121.out hb); have n4_ := mk (blk_below BK122.out hb); have n5_ := mk (below_step HB.out hb); replace HO137 := n0_; replace HO143 := n1_; replace BK121 := n3_; replace BK122 := n4_; replace HB := n5_; clear n0_ n1_ n3_ n4_ n5_; clear hb ho17
              refine hK.out _ _ ⟨(blk_cell BK121.out 0).trans rfl, (blk_cell BK121.out 1).trans rfl, (blk_cell BK122.out 0).trans rfl, (blk_cell BK122.out 1).trans rfl⟩ (fun hHeld => ?_)
              clear hK K
              refine norm_ (a' := ?_) ?_ ?_
              rotate_left
              · show Act.put _ (some 5) _ = _
                simp only [Act.put, List.setIfInBounds_toArray, List.set_cons_zero, List.set_cons_succ, i64_w, i32_w]
                rfl
              exact norm_ (by first | (simp only [putAll, Act.put, List.setIfInBounds_toArray, List.set_cons_zero, List.set_cons_succ]; done) | (simp only [putAll, Act.put, List.setIfInBounds_toArray, List.set_cons_zero, List.set_cons_succ]; rfl)) (hJ0_8_14 (v124, v136, v142) _ ⟨hHeld, (by exact Kd.R_mono HO125.out (fun _ hk => ⟨hk.1.2, hk.2⟩)), (by exact Kd.R_mono HO137.out (fun _ hk => ⟨hk.2, hk.1⟩)), (by exact Kd.R_mono HO143.out (fun _ hk => ⟨hk.2, hk.1⟩)), BK121.out, BK122.out, HB.out⟩)
            · skip
              refine Kd.R_lit_step (Kd.int .i64) _ 3 ?hg (N := 11) ?hd (xs := ([a0_1] : List Int)) (inner := [.int .i64 a0_1]) (ok := fun _ => True) (okp := fun _ => True) ?hr ?hp (fun _ hk => hk) trivial (Below.refl _ _) (Nat.le_refl _) (by simp) ?_; (case hd => rfl); (case hg => rfl); (case hr => first | (go_simp; done) | (go_simp; rfl)); (case hp => exact (Reps.one (show Kd.M (Kd.int .i64) _ _ _ a0_1 [.int .i64 a0_1] from rfl) (Reps.none _ _)))
              intro v130 w16 ho17 hb hg_ hnew_
              clear hg_ hnew_
              (first | rw [← Ny129.out] at ho17 | (simp only [Int.reduceToNat] at ho17; rw [← Ny129.out] at ho17))
              have n0_ := mk (Kd.R_elder' HO137.out (Kd.R_base ho17) hb); have n1_ := mk (Kd.R_elder' HO143.out (Kd.R_base ho17) hb); have HO131 := mk (Kd.R_lower (Kd.R_new' (Kd.R_new' ho17 (Kd.R_lt HO137.out)) (Kd.R_lt HO143.out)) (below_size HB.out)); have n3_ := mk (blk_below BK121.out hb); have n4_ := mk (blk_below BK122.out hb); have n5_ := mk (below_step HB.out hb); replace HO137 := n0_; replace HO143 := n1_; replace BK121 := n3_; replace BK122 := n4_; replace HB := n5_; clear n0_ n1_ n3_ n4_ n5_; clear hb ho17
              refine hK.out _ _ ⟨(blk_cell BK121.out 0).trans rfl, (blk_cell BK121.out 1).trans rfl, (blk_cell BK122.out 0).trans rfl, (blk_cell BK122.out 1).trans rfl⟩ (fun hHeld => ?_)
              clear hK K
              refine norm_ (a' := ?_) ?_ ?_
              rotate_left
              · show Act.put _ (some 11) _ = _
                simp only [Act.put, List.setIfInBounds_toArray, List.set_cons_zero, List.set_cons_succ, i64_w, i32_w]
                rfl
              exact norm_ (by first | (simp only [putAll, Act.put, List.setIfInBounds_toArray, List.set_cons_zero, List.set_cons_succ]; done) | (simp only [putAll, Act.put, List.setIfInBounds_toArray, List.set_cons_zero, List.set_cons_succ]; rfl)) (hJ6_8_14 (v130, v136, v142) _ ⟨hHeld, (by exact Kd.R_mono HO131.out (fun _ hk => ⟨hk.1.2, hk.2⟩)), (by exact Kd.R_mono HO137.out (fun _ hk => ⟨hk.2, hk.1⟩)), (by exact Kd.R_mono HO143.out (fun _ hk => ⟨hk.2, hk.1⟩)), BK121.out, BK122.out, HB.out⟩)
          intro hJ8_14
          refine join_ (σ := Value) 9 #[true, true, true, false, true, true, false, false, false, true, true, false, true, true, false, false, false, false] (fun s_ => [(5, s_)]) (fun s_ w' => (w'.cell? ⟨gb121, 0, none⟩ = some (.slice A0_0 l0_0.length c0_0) ∧ w'.cell? ⟨gb121, 1, none⟩ = some (.int .i64 a0_1) ∧ w'.cell? ⟨gb122, 0, none⟩ = some (.slice A1_0 l1_0.length c1_0) ∧ w'.cell? ⟨gb122, 1, none⟩ = some (.int .i64 a1_1)) ∧ (Kd.R (Kd.int .i64) 3 w' w.heap.size (fun _ => True) s_ y123) ∧ (w'.heap[gb121]? = some (.cells #[.slice A0_0 l0_0.length c0_0, .int .i64 a0_1] 24 (0, 0))) ∧ (w'.heap[gb122]? = some (.cells #[.slice A1_0 l1_0.length c1_0, .int .i64 a1_1] 24 (0, 0))) ∧ (Below w.heap.size w w')) ?_ ?_
          · skip
            rintro v124 w13 ⟨hS_, h0_, h1_, h2_, h3_⟩
            have n0_ : Aside0 (Kd.R (Kd.int .i64) 3 w13 w.heap.size (fun _ => True) v124 y123) := ⟨h0_⟩; have n1_ : Aside0 (w13.heap[gb121]? = some (.cells #[.slice A0_0 l0_0.length c0_0, .int .i64 a0_1] 24 (0, 0))) := ⟨h1_⟩; have n2_ : Aside0 (w13.heap[gb122]? = some (.cells #[.slice A1_0 l1_0.length c1_0, .int .i64 a1_1] 24 (0, 0))) := ⟨h2_⟩; have n3_ : Aside0 (Below w.heap.size w w13) := ⟨h3_⟩; clear BK121; clear BK122; clear HB; clear h0_ h1_ h2_ h3_; have HO125 := n0_; have BK121 := n1_; have BK122 := n2_; have HB := n3_; clear n0_ n1_ n2_ n3_
            have hHeld : w13.cell? ⟨gb121, 0, none⟩ = some (.slice A0_0 l0_0.length c0_0) ∧ w13.cell? ⟨gb121, 1, none⟩ = some (.int .i64 a0_1) ∧ w13.cell? ⟨gb122, 0, none⟩ = some (.slice A1_0 l1_0.length c1_0) ∧ w13.cell? ⟨gb122, 1, none⟩ = some (.int .i64 a1_1) := hS_
            refine norm_ (a' := ?_) ?_ ?_
            rotate_left
            · simp only [putAll, Act.put, List.setIfInBounds_toArray, List.set_cons_zero, List.set_cons_succ]
              rfl
            refine four_ (i := 3) (j := 6) (k := 8) (m := 14) (Ni := some 8) (Nj := some 11) (Nk := some 13) (Nm := some 19) #[true, true, true, true, true, true, false, false, false, true, true, false, true, true, false, false, false, false] #[true, true, true, false, true, true, true, false, false, true, true, false, true, true, false, false, false, false] #[true, true, true, false, true, true, false, false, true, true, true, false, true, true, false, false, false, false] #[true, true, true, false, true, true, false, false, false, true, true, false, true, true, true, false, false, false] rfl rfl rfl rfl rfl rfl rfl rfl (four_of HT_.out (by kernel_rfl)) (by decide) (by decide) (by decide) (by decide) (fun K hK => ?_) (fun K hK => ?_) (fun K hK => ?_) (fun K hK => ?_)
            · skip
              refine Kd.R_append_rows_step (Kd.int .i64) (w0 := w) w.heap.size (by rfl) (.tmp 5) (.tmp 7) 22 3 (.int .i64 0) 8 rfl Try.underlying22 info3 rfl (by decide) (by omega) v124 y123 l0_0 _ _ _ (fun _ => True) (fun _ => False) rfl rfl ?aO ?aR (fun _ _ h => h) (fun _ h => h.elim) ?aF ?aB ?aS ?aL ?_
              (case aR => repeat (first | exact (Kd.C_below HR0_0.out HB.out) | (with_reducible refine Kd.C_alloc ?_ _) | (with_reducible refine Kd.C_drewN ?_ _) | (with_reducible refine Kd.C_drew ?_)))
              (case aB => exact HB.out)
              (case aF => exact (fun _ _ => trivial))
              (case aO => exact HO125.out)
              (case aS => exact (below_size HB.out))
              (case aL => have := LMc3.out; omega)
              intro v127 w14 ho hb hg hat
              rw [← Ny126.out] at ho
              have n0_ := mk (blk_grown (g := gb121) (o := .cells #[.slice A0_0 l0_0.length c0_0, .int .i64 a0_1] 24 (0, 0)) BK121.out hg (Kd.R_ne HO125.out BK121.out (by decide))); have n1_ := mk (blk_grown (g := gb122) (o := .cells #[.slice A1_0 l1_0.length c1_0, .int .i64 a1_1] 24 (0, 0)) BK122.out hg (Kd.R_ne HO125.out BK122.out (by decide))); have n2_ := mk (hb); have HO128 := mk (ho); clear HO125; replace BK121 := n0_; replace BK122 := n1_; replace HB := n2_; clear n0_ n1_ n2_; clear ho hb hg hat
              refine hK.out _ _ ⟨(blk_cell BK121.out 0).trans rfl, (blk_cell BK121.out 1).trans rfl, (blk_cell BK122.out 0).trans rfl, (blk_cell BK122.out 1).trans rfl⟩ (fun hHeld => ?_)
              clear hK K
              refine norm_ (a' := ?_) ?_ ?_
              rotate_left
              · show Act.put _ (some 8) _ = _
                simp only [Act.put, List.setIfInBounds_toArray, List.set_cons_zero, List.set_cons_succ, i64_w, i32_w]
                rfl
              exact norm_ (by first | (simp only [putAll, Act.put, List.setIfInBounds_toArray, List.set_cons_zero, List.set_cons_succ]; done) | (simp only [putAll, Act.put, List.setIfInBounds_toArray, List.set_cons_zero, List.set_cons_succ]; rfl)) (hJ0_3 (v124, v127) _ ⟨hHeld, HO128.out, BK121.out, BK122.out, HB.out⟩)
            · skip
              refine Kd.R_lit_step (Kd.int .i64) _ 3 ?hg (N := 11) ?hd (xs := ([a0_1] : List Int)) (inner := [.int .i64 a0_1]) (ok := fun _ => True) (okp := fun _ => True) ?hr ?hp (fun _ hk => hk) trivial (Below.refl _ _) (Nat.le_refl _) (by simp) ?_; (case hd => rfl); (case hg => rfl); (case hr => first | (go_simp; done) | (go_simp; rfl)); (case hp => exact (Reps.one (show Kd.M (Kd.int .i64) _ _ _ a0_1 [.int .i64 a0_1] from rfl) (Reps.none _ _)))
              intro v130 w14 ho15 hb hg_ hnew_
              clear hg_ hnew_
              (first | rw [← Ny129.out] at ho15 | (simp only [Int.reduceToNat] at ho15; rw [← Ny129.out] at ho15))
              have n0_ := mk (Kd.R_elder' HO125.out (Kd.R_base ho15) hb); have HO131 := mk (Kd.R_lower (Kd.R_new' ho15 (Kd.R_lt HO125.out)) (below_size HB.out)); have n2_ := mk (blk_below BK121.out hb); have n3_ := mk (blk_below BK122.out hb); have n4_ := mk (below_step HB.out hb); replace HO125 := n0_; replace BK121 := n2_; replace BK122 := n3_; replace HB := n4_; clear n0_ n2_ n3_ n4_; clear hb ho15
              refine hK.out _ _ ⟨(blk_cell BK121.out 0).trans rfl, (blk_cell BK121.out 1).trans rfl, (blk_cell BK122.out 0).trans rfl, (blk_cell BK122.out 1).trans rfl⟩ (fun hHeld => ?_)
              clear hK K
              refine norm_ (a' := ?_) ?_ ?_
              rotate_left
              · show Act.put _ (some 11) _ = _
                simp only [Act.put, List.setIfInBounds_toArray, List.set_cons_zero, List.set_cons_succ, i64_w, i32_w]
                rfl
              exact norm_ (by first | (simp only [putAll, Act.put, List.setIfInBounds_toArray, List.set_cons_zero, List.set_cons_succ]; done) | (simp only [putAll, Act.put, List.setIfInBounds_toArray, List.set_cons_zero, List.set_cons_succ]; rfl)) (hJ0_6 (v124, v130) _ ⟨hHeld, (by exact Kd.R_mono HO125.out (fun _ hk => hk.2)), (by exact Kd.R_mono HO131.out (fun _ hk => hk.2)), BK121.out, BK122.out, HB.out⟩)
            · skip
              refine Kd.R_lit_step (Kd.int .i64) _ 3 ?hg (N := 13) ?hd (xs := ([] : List Int)) (inner := []) (ok := fun _ => True) (okp := fun _ => True) ?hr ?hp (fun _ hk => hk) trivial (Below.refl _ _) (Nat.le_refl _) (by simp) ?_; (case hd => rfl); (case hg => rfl); (case hr => first | (go_simp; done) | (go_simp; rfl)); (case hp => exact (Reps.none _ _))
              intro v136 w14 ho15 hb hg_ hnew_
              clear hg_ hnew_
              (first | rw [← Ny135.out] at ho15 | (simp only [Int.reduceToNat] at ho15; rw [← Ny135.out] at ho15))
              have n0_ := mk (Kd.R_elder' HO125.out (Kd.R_base ho15) hb); have HO137 := mk (Kd.R_lower (Kd.R_new' ho15 (Kd.R_lt HO125.out)) (below_size HB.out)); have n2_ := mk (blk_below BK121.out hb); have n3_ := mk (blk_below BK122.out hb); have n4_ := mk (below_step HB.out hb); replace HO125 := n0_; replace BK121 := n2_; replace BK122 := n3_; replace HB := n4_; clear n0_ n2_ n3_ n4_; clear hb ho15
              refine hK.out _ _ ⟨(blk_cell BK121.out 0).trans rfl, (blk_cell BK121.out 1).trans rfl, (blk_cell BK122.out 0).trans rfl, (blk_cell BK122.out 1).trans rfl⟩ (fun hHeld => ?_)
              clear hK K
              refine norm_ (a' := ?_) ?_ ?_
              rotate_left
              · show Act.put _ (some 13) _ = _
                simp only [Act.put, List.setIfInBounds_toArray, List.set_cons_zero, List.set_cons_succ, i64_w, i32_w]
                rfl
              exact norm_ (by first | (simp only [putAll, Act.put, List.setIfInBounds_toArray, List.set_cons_zero, List.set_cons_succ]; done) | (simp only [putAll, Act.put, List.setIfInBounds_toArray, List.set_cons_zero, List.set_cons_succ]; rfl)) (hJ0_8 (v124, v136) _ ⟨hHeld, (by exact Kd.R_mono HO125.out (fun _ hk => hk.2)), (by exact Kd.R_mono HO137.out (fun _ hk => hk.2)), BK121.out, BK122.out, HB.out⟩)
            · skip
              refine Kd.R_lit_step (Kd.int .i64) _ 3 ?hg (N := 19) ?hd (xs := ([a1_1] : List Int)) (inner := [.int .i64 a1_1]) (ok := fun _ => True) (okp := fun _ => True) ?hr ?hp (fun _ hk => hk) trivial (Below.refl _ _) (Nat.le_refl _) (by simp) ?_; (case hd => rfl); (case hg => rfl); (case hr => first | (go_simp; done) | (go_simp; rfl)); (case hp => exact (Reps.one (show Kd.M (Kd.int .i64) _ _ _ a1_1 [.int .i64 a1_1] from rfl) (Reps.none _ _)))
              intro v142 w14 ho15 hb hg_ hnew_
              clear hg_ hnew_
              (first | rw [← Ny141.out] at ho15 | (simp only [Int.reduceToNat] at ho15; rw [← Ny141.out] at ho15))
              have n0_ := mk (Kd.R_elder' HO125.out (Kd.R_base ho15) hb); have HO143 := mk (Kd.R_lower (Kd.R_new' ho15 (Kd.R_lt HO125.out)) (below_size HB.out)); have n2_ := mk (blk_below BK121.out hb); have n3_ := mk (blk_below BK122.out hb); have n4_ := mk (below_step HB.out hb); replace HO125 := n0_; replace BK121 := n2_; replace BK122 := n3_; replace HB := n4_; clear n0_ n2_ n3_ n4_; clear hb ho15
              refine hK.out _ _ ⟨(blk_cell BK121.out 0).trans rfl, (blk_cell BK121.out 1).trans rfl, (blk_cell BK122.out 0).trans rfl, (blk_cell BK122.out 1).trans rfl⟩ (fun hHeld => ?_)
              clear hK K
              refine norm_ (a' := ?_) ?_ ?_
              rotate_left
              · show Act.put _ (some 19) _ = _
                simp only [Act.put, List.setIfInBounds_toArray, List.set_cons_zero, List.set_cons_succ, i64_w, i32_w]
                rfl
              exact norm_ (by first | (simp only [putAll, Act.put, List.setIfInBounds_toArray, List.set_cons_zero, List.set_cons_succ]; done) | (simp only [putAll, Act.put, List.setIfInBounds_toArray, List.set_cons_zero, List.set_cons_succ]; rfl)) (hJ0_14 (v124, v142) _ ⟨hHeld, (by exact Kd.R_mono HO125.out (fun _ hk => hk.2)), (by exact Kd.R_mono HO143.out (fun _ hk => hk.2)), BK121.out, BK122.out, HB.out⟩)
          intro hJ0
          refine join_ (σ := Value) 9 #[false, true, true, false, true, true, true, false, false, true, true, false, true, true, false, false, false, false] (fun s_ => [(11, s_)]) (fun s_ w' => (w'.cell? ⟨gb121, 0, none⟩ = some (.slice A0_0 l0_0.length c0_0) ∧ w'.cell? ⟨gb121, 1, none⟩ = some (.int .i64 a0_1) ∧ w'.cell? ⟨gb122, 0, none⟩ = some (.slice A1_0 l1_0.length c1_0) ∧ w'.cell? ⟨gb122, 1, none⟩ = some (.int .i64 a1_1)) ∧ (Kd.R (Kd.int .i64) 3 w' w.heap.size (fun _ => True) s_ y129) ∧ (w'.heap[gb121]? = some (.cells #[.slice A0_0 l0_0.length c0_0, .int .i64 a0_1] 24 (0, 0))) ∧ (w'.heap[gb122]? = some (.cells #[.slice A1_0 l1_0.length c1_0, .int .i64 a1_1] 24 (0, 0))) ∧ (Below w.heap.size w w')) ?_ ?_
          · skip
            rintro v130 w13 ⟨hS_, h0_, h1_, h2_, h3_⟩
            have n0_ : Aside0 (Kd.R (Kd.int .i64) 3 w13 w.heap.size (fun _ => True) v130 y129) := ⟨h0_⟩; have n1_ : Aside0 (w13.heap[gb121]? = some (.cells #[.slice A0_0 l0_0.length c0_0, .int .i64 a0_1] 24 (0, 0))) := ⟨h1_⟩; have n2_ : Aside0 (w13.heap[gb122]? = some (.cells #[.slice A1_0 l1_0.length c1_0, .int .i64 a1_1] 24 (0, 0))) := ⟨h2_⟩; have n3_ : Aside0 (Below w.heap.size w w13) := ⟨h3_⟩; clear BK121; clear BK122; clear HB; clear h0_ h1_ h2_ h3_; have HO131 := n0_; have BK121 := n1_; have BK122 := n2_; have HB := n3_; clear n0_ n1_ n2_ n3_
            have hHeld : w13.cell? ⟨gb121, 0, none⟩ = some (.slice A0_0 l0_0.length c0_0) ∧ w13.cell? ⟨gb121, 1, none⟩ = some (.int .i64 a0_1) ∧ w13.cell? ⟨gb122, 0, none⟩ = some (.slice A1_0 l1_0.length c1_0) ∧ w13.cell? ⟨gb122, 1, none⟩ = some (.int .i64 a1_1) := hS_
            refine norm_ (a' := ?_) ?_ ?_
            rotate_left
            · simp only [putAll, Act.put, List.setIfInBounds_toArray, List.set_cons_zero, List.set_cons_succ]
              rfl
            refine three_ (i := 0) (j := 8) (k := 14) (Ni := some 5) (Nj := some 13) (Nk := some 19) #[true, true, true, false, true, true, true, false, false, true, true, false, true, true, false, false, false, false] #[false, true, true, false, true, true, true, false, true, true, true, false, true, true, false, false, false, false] #[false, true, true, false, true, true, true, false, false, true, true, false, true, true, true, false, false, false] rfl rfl rfl rfl rfl rfl (three_of HT_.out (by kernel_rfl)) (by decide) (by decide) (by decide) (fun K hK => ?_) (fun K hK => ?_) (fun K hK => ?_)
            · skip
              refine Kd.R_lit_step (Kd.int .i64) _ 3 ?hg (N := 5) ?hd (xs := ([] : List Int)) (inner := []) (ok := fun _ => True) (okp := fun _ => True) ?hr ?hp (fun _ hk => hk) trivial (Below.refl _ _) (Nat.le_refl _) (by simp) ?_; (case hd => rfl); (case hg => rfl); (case hr => first | (go_simp; done) | (go_simp; rfl)); (case hp => exact (Reps.none _ _))
              intro v124 w14 ho15 hb hg_ hnew_
              clear hg_ hnew_
              (first | rw [← Ny123.out] at ho15 | (simp only [Int.reduceToNat] at ho15; rw [← Ny123.out] at ho15))
              have n0_ := mk (Kd.R_elder' HO131.out (Kd.R_base ho15) hb); have HO125 := mk (Kd.R_lower (Kd.R_new' ho15 (Kd.R_lt HO131.out)) (below_size HB.out)); have n2_ := mk (blk_below BK121.out hb); have n3_ := mk (blk_below BK122.out hb); have n4_ := mk (below_step HB.out hb); replace HO131 := n0_; replace BK121 := n2_; replace BK122 := n3_; replace HB := n4_; clear n0_ n2_ n3_ n4_; clear hb ho15
              refine hK.out _ _ ⟨(blk_cell BK121.out 0).trans rfl, (blk_cell BK121.out 1).trans rfl, (blk_cell BK122.out 0).trans rfl, (blk_cell BK122.out 1).trans rfl⟩ (fun hHeld => ?_)
              clear hK K
              refine norm_ (a' := ?_) ?_ ?_
              rotate_left
              · show Act.put _ (some 5) _ = _
                simp only [Act.put, List.setIfInBounds_toArray, List.set_cons_zero, List.set_cons_succ, i64_w, i32_w]
                rfl
              exact norm_ (by first | (simp only [putAll, Act.put, List.setIfInBounds_toArray, List.set_cons_zero, List.set_cons_succ]; done) | (simp only [putAll, Act.put, List.setIfInBounds_toArray, List.set_cons_zero, List.set_cons_succ]; rfl)) (hJ0_6 (v124, v130) _ ⟨hHeld, (by exact Kd.R_mono HO125.out (fun _ hk => hk.2)), (by exact Kd.R_mono HO131.out (fun _ hk => hk.2)), BK121.out, BK122.out, HB.out⟩)
            · skip
              refine Kd.R_lit_step (Kd.int .i64) _ 3 ?hg (N := 13) ?hd (xs := ([] : List Int)) (inner := []) (ok := fun _ => True) (okp := fun _ => True) ?hr ?hp (fun _ hk => hk) trivial (Below.refl _ _) (Nat.le_refl _) (by simp) ?_; (case hd => rfl); (case hg => rfl); (case hr => first | (go_simp; done) | (go_simp; rfl)); (case hp => exact (Reps.none _ _))
              intro v136 w14 ho15 hb hg_ hnew_
              clear hg_ hnew_
              (first | rw [← Ny135.out] at ho15 | (simp only [Int.reduceToNat] at ho15; rw [← Ny135.out] at ho15))
              have n0_ := mk (Kd.R_elder' HO131.out (Kd.R_base ho15) hb); have HO137 := mk (Kd.R_lower (Kd.R_new' ho15 (Kd.R_lt HO131.out)) (below_size HB.out)); have n2_ := mk (blk_below BK121.out hb); have n3_ := mk (blk_below BK122.out hb); have n4_ := mk (below_step HB.out hb); replace HO131 := n0_; replace BK121 := n2_; replace BK122 := n3_; replace HB := n4_; clear n0_ n2_ n3_ n4_; clear hb ho15
              refine hK.out _ _ ⟨(blk_cell BK121.out 0).trans rfl, (blk_cell BK121.out 1).trans rfl, (blk_cell BK122.out 0).trans rfl, (blk_cell BK122.out 1).trans rfl⟩ (fun hHeld => ?_)
              clear hK K
              refine norm_ (a' := ?_) ?_ ?_
              rotate_left
              · show Act.put _ (some 13) _ = _
                simp only [Act.put, List.setIfInBounds_toArray, List.set_cons_zero, List.set_cons_succ, i64_w, i32_w]
                rfl
              exact norm_ (by first | (simp only [putAll, Act.put, List.setIfInBounds_toArray, List.set_cons_zero, List.set_cons_succ]; done) | (simp only [putAll, Act.put, List.setIfInBounds_toArray, List.set_cons_zero, List.set_cons_succ]; rfl)) (hJ6_8 (v130, v136) _ ⟨hHeld, (by exact Kd.R_mono HO131.out (fun _ hk => hk.2)), (by exact Kd.R_mono HO137.out (fun _ hk => hk.2)), BK121.out, BK122.out, HB.out⟩)
            · skip
              refine Kd.R_lit_step (Kd.int .i64) _ 3 ?hg (N := 19) ?hd (xs := ([a1_1] : List Int)) (inner := [.int .i64 a1_1]) (ok := fun _ => True) (okp := fun _ => True) ?hr ?hp (fun _ hk => hk) trivial (Below.refl _ _) (Nat.le_refl _) (by simp) ?_; (case hd => rfl); (case hg => rfl); (case hr => first | (go_simp; done) | (go_simp; rfl)); (case hp => exact (Reps.one (show Kd.M (Kd.int .i64) _ _ _ a1_1 [.int .i64 a1_1] from rfl) (Reps.none _ _)))
              intro v142 w14 ho15 hb hg_ hnew_
              clear hg_ hnew_
              (first | rw [← Ny141.out] at ho15 | (simp only [Int.reduceToNat] at ho15; rw [← Ny141.out] at ho15))
              have n0_ := mk (Kd.R_elder' HO131.out (Kd.R_base ho15) hb); have HO143 := mk (Kd.R_lower (Kd.R_new' ho15 (Kd.R_lt HO131.out)) (below_size HB.out)); have n2_ := mk (blk_below BK121.out hb); have n3_ := mk (blk_below BK122.out hb); have n4_ := mk (below_step HB.out hb); replace HO131 := n0_; replace BK121 := n2_; replace BK122 := n3_; replace HB := n4_; clear n0_ n2_ n3_ n4_; clear hb ho15
              refine hK.out _ _ ⟨(blk_cell BK121.out 0).trans rfl, (blk_cell BK121.out 1).trans rfl, (blk_cell BK122.out 0).trans rfl, (blk_cell BK122.out 1).trans rfl⟩ (fun hHeld => ?_)
              clear hK K
              refine norm_ (a' := ?_) ?_ ?_
              rotate_left
              · show Act.put _ (some 19) _ = _
                simp only [Act.put, List.setIfInBounds_toArray, List.set_cons_zero, List.set_cons_succ, i64_w, i32_w]
                rfl
              exact norm_ (by first | (simp only [putAll, Act.put, List.setIfInBounds_toArray, List.set_cons_zero, List.set_cons_succ]; done) | (simp only [putAll, Act.put, List.setIfInBounds_toArray, List.set_cons_zero, List.set_cons_succ]; rfl)) (hJ6_14 (v130, v142) _ ⟨hHeld, (by exact Kd.R_mono HO131.out (fun _ hk => hk.2)), (by exact Kd.R_mono HO143.out (fun _ hk => hk.2)), BK121.out, BK122.out, HB.out⟩)
          intro hJ6
          refine join_ (σ := Value) 9 #[false, true, true, false, true, true, false, false, true, true, true, false, true, true, false, false, false, false] (fun s_ => [(13, s_)]) (fun s_ w' => (w'.cell? ⟨gb121, 0, none⟩ = some (.slice A0_0 l0_0.length c0_0) ∧ w'.cell? ⟨gb121, 1, none⟩ = some (.int .i64 a0_1) ∧ w'.cell? ⟨gb122, 0, none⟩ = some (.slice A1_0 l1_0.length c1_0) ∧ w'.cell? ⟨gb122, 1, none⟩ = some (.int .i64 a1_1)) ∧ (Kd.R (Kd.int .i64) 3 w' w.heap.size (fun _ => True) s_ y135) ∧ (w'.heap[gb121]? = some (.cells #[.slice A0_0 l0_0.length c0_0, .int .i64 a0_1] 24 (0, 0))) ∧ (w'.heap[gb122]? = some (.cells #[.slice A1_0 l1_0.length c1_0, .int .i64 a1_1] 24 (0, 0))) ∧ (Below w.heap.size w w')) ?_ ?_
          · skip
            rintro v136 w13 ⟨hS_, h0_, h1_, h2_, h3_⟩
            have n0_ : Aside0 (Kd.R (Kd.int .i64) 3 w13 w.heap.size (fun _ => True) v136 y135) := ⟨h0_⟩; have n1_ : Aside0 (w13.heap[gb121]? = some (.cells #[.slice A0_0 l0_0.length c0_0, .int .i64 a0_1] 24 (0, 0))) := ⟨h1_⟩; have n2_ : Aside0 (w13.heap[gb122]? = some (.cells #[.slice A1_0 l1_0.length c1_0, .int .i64 a1_1] 24 (0, 0))) := ⟨h2_⟩; have n3_ : Aside0 (Below w.heap.size w w13) := ⟨h3_⟩; clear BK121; clear BK122; clear HB; clear h0_ h1_ h2_ h3_; have HO137 := n0_; have BK121 := n1_; have BK122 := n2_; have HB := n3_; clear n0_ n1_ n2_ n3_
            have hHeld : w13.cell? ⟨gb121, 0, none⟩ = some (.slice A0_0 l0_0.length c0_0) ∧ w13.cell? ⟨gb121, 1, none⟩ = some (.int .i64 a0_1) ∧ w13.cell? ⟨gb122, 0, none⟩ = some (.slice A1_0 l1_0.length c1_0) ∧ w13.cell? ⟨gb122, 1, none⟩ = some (.int .i64 a1_1) := hS_
            refine norm_ (a' := ?_) ?_ ?_
            rotate_left
            · simp only [putAll, Act.put, List.setIfInBounds_toArray, List.set_cons_zero, List.set_cons_succ]
              rfl
            refine three_ (i := 0) (j := 6) (k := 14) (Ni := some 5) (Nj := some 11) (Nk := some 19) #[true, true, true, false, true, true, false, false, true, true, true, false, true, true, false, false, false, false] #[false, true, true, false, true, true, true, false, true, true, true, false, true, true, false, false, false, false] #[false, true, true, false, true, true, false, false, true, true, true, false, true, true, true, false, false, false] rfl rfl rfl rfl rfl rfl (three_of HT_.out (by kernel_rfl)) (by decide) (by decide) (by decide) (fun K hK => ?_) (fun K hK => ?_) (fun K hK => ?_)
            · skip
              refine Kd.R_lit_step (Kd.int .i64) _ 3 ?hg (N := 5) ?hd (xs := ([] : List Int)) (inner := []) (ok := fun _ => True) (okp := fun _ => True) ?hr ?hp (fun _ hk => hk) trivial (Below.refl _ _) (Nat.le_refl _) (by simp) ?_; (case hd => rfl); (case hg => rfl); (case hr => first | (go_simp; done) | (go_simp; rfl)); (case hp => exact (Reps.none _ _))
              intro v124 w14 ho15 hb hg_ hnew_
              clear hg_ hnew_
              (first | rw [← Ny123.out] at ho15 | (simp only [Int.reduceToNat] at ho15; rw [← Ny123.out] at ho15))
              have n0_ := mk (Kd.R_elder' HO137.out (Kd.R_base ho15) hb); have HO125 := mk (Kd.R_lower (Kd.R_new' ho15 (Kd.R_lt HO137.out)) (below_size HB.out)); have n2_ := mk (blk_below BK121.out hb); have n3_ := mk (blk_below BK122.out hb); have n4_ := mk (below_step HB.out hb); replace HO137 := n0_; replace BK121 := n2_; replace BK122 := n3_; replace HB := n4_; clear n0_ n2_ n3_ n4_; clear hb ho15
              refine hK.out _ _ ⟨(blk_cell BK121.out 0).trans rfl, (blk_cell BK121.out 1).trans rfl, (blk_cell BK122.out 0).trans rfl, (blk_cell BK122.out 1).trans rfl⟩ (fun hHeld => ?_)
              clear hK K
              refine norm_ (a' := ?_) ?_ ?_
              rotate_left
              · show Act.put _ (some 5) _ = _
                simp only [Act.put, List.setIfInBounds_toArray, List.set_cons_zero, List.set_cons_succ, i64_w, i32_w]
                rfl
              exact norm_ (by first | (simp only [putAll, Act.put, List.setIfInBounds_toArray, List.set_cons_zero, List.set_cons_succ]; done) | (simp only [putAll, Act.put, List.setIfInBounds_toArray, List.set_cons_zero, List.set_cons_succ]; rfl)) (hJ0_8 (v124, v136) _ ⟨hHeld, (by exact Kd.R_mono HO125.out (fun _ hk => hk.2)), (by exact Kd.R_mono HO137.out (fun _ hk => hk.2)), BK121.out, BK122.out, HB.out⟩)
            · skip
              refine Kd.R_lit_step (Kd.int .i64) _ 3 ?hg (N := 11) ?hd (xs := ([a0_1] : List Int)) (inner := [.int .i64 a0_1]) (ok := fun _ => True) (okp := fun _ => True) ?hr ?hp (fun _ hk => hk) trivial (Below.refl _ _) (Nat.le_refl _) (by simp) ?_; (case hd => rfl); (case hg => rfl); (case hr => first | (go_simp; done) | (go_simp; rfl)); (case hp => exact (Reps.one (show Kd.M (Kd.int .i64) _ _ _ a0_1 [.int .i64 a0_1] from rfl) (Reps.none _ _)))
              intro v130 w14 ho15 hb hg_ hnew_
              clear hg_ hnew_
              (first | rw [← Ny129.out] at ho15 | (simp only [Int.reduceToNat] at ho15; rw [← Ny129.out] at ho15))
              have n0_ := mk (Kd.R_elder' HO137.out (Kd.R_base ho15) hb); have HO131 := mk (Kd.R_lower (Kd.R_new' ho15 (Kd.R_lt HO137.out)) (below_size HB.out)); have n2_ := mk (blk_below BK121.out hb); have n3_ := mk (blk_below BK122.out hb); have n4_ := mk (below_step HB.out hb); replace HO137 := n0_; replace BK121 := n2_; replace BK122 := n3_; replace HB := n4_; clear n0_ n2_ n3_ n4_; clear hb ho15
              refine hK.out _ _ ⟨(blk_cell BK121.out 0).trans rfl, (blk_cell BK121.out 1).trans rfl, (blk_cell BK122.out 0).trans rfl, (blk_cell BK122.out 1).trans rfl⟩ (fun hHeld => ?_)
              clear hK K
              refine norm_ (a' := ?_) ?_ ?_
              rotate_left
              · show Act.put _ (some 11) _ = _
                simp only [Act.put, List.setIfInBounds_toArray, List.set_cons_zero, List.set_cons_succ, i64_w, i32_w]
                rfl
              exact norm_ (by first | (simp only [putAll, Act.put, List.setIfInBounds_toArray, List.set_cons_zero, List.set_cons_succ]; done) | (simp only [putAll, Act.put, List.setIfInBounds_toArray, List.set_cons_zero, List.set_cons_succ]; rfl)) (hJ6_8 (v130, v136) _ ⟨hHeld, (by exact Kd.R_mono HO131.out (fun _ hk => hk.2)), (by exact Kd.R_mono HO137.out (fun _ hk => hk.2)), BK121.out, BK122.out, HB.out⟩)
            · skip
              refine Kd.R_lit_step (Kd.int .i64) _ 3 ?hg (N := 19) ?hd (xs := ([a1_1] : List Int)) (inner := [.int .i64 a1_1]) (ok := fun _ => True) (okp := fun _ => True) ?hr ?hp (fun _ hk => hk) trivial (Below.refl _ _) (Nat.le_refl _) (by simp) ?_; (case hd => rfl); (case hg => rfl); (case hr => first | (go_simp; done) | (go_simp; rfl)); (case hp => exact (Reps.one (show Kd.M (Kd.int .i64) _ _ _ a1_1 [.int .i64 a1_1] from rfl) (Reps.none _ _)))
              intro v142 w14 ho15 hb hg_ hnew_
              clear hg_ hnew_
              (first | rw [← Ny141.out] at ho15 | (simp only [Int.reduceToNat] at ho15; rw [← Ny141.out] at ho15))
              have n0_ := mk (Kd.R_elder' HO137.out (Kd.R_base ho15) hb); have HO143 := mk (Kd.R_lower (Kd.R_new' ho15 (Kd.R_lt HO137.out)) (below_size HB.out)); have n2_ := mk (blk_below BK121.out hb); have n3_ := mk (blk_below BK122.out hb); have n4_ := mk (below_step HB.out hb); replace HO137 := n0_; replace BK121 := n2_; replace BK122 := n3_; replace HB := n4_; clear n0_ n2_ n3_ n4_; clear hb ho15
              refine hK.out _ _ ⟨(blk_cell BK121.out 0).trans rfl, (blk_cell BK121.out 1).trans rfl, (blk_cell BK122.out 0).trans rfl, (blk_cell BK122.out 1).trans rfl⟩ (fun hHeld => ?_)
              clear hK K
              refine norm_ (a' := ?_) ?_ ?_
              rotate_left
              · show Act.put _ (some 19) _ = _
                simp only [Act.put, List.setIfInBounds_toArray, List.set_cons_zero, List.set_cons_succ, i64_w, i32_w]
                rfl
              exact norm_ (by first | (simp only [putAll, Act.put, List.setIfInBounds_toArray, List.set_cons_zero, List.set_cons_succ]; done) | (simp only [putAll, Act.put, List.setIfInBounds_toArray, List.set_cons_zero, List.set_cons_succ]; rfl)) (hJ8_14 (v136, v142) _ ⟨hHeld, (by exact Kd.R_mono HO137.out (fun _ hk => hk.2)), (by exact Kd.R_mono HO143.out (fun _ hk => hk.2)), BK121.out, BK122.out, HB.out⟩)
          intro hJ8
          refine join_ (σ := Value) 9 #[false, true, true, false, true, true, false, false, false, true, true, false, true, true, true, false, false, false] (fun s_ => [(19, s_)]) (fun s_ w' => (w'.cell? ⟨gb121, 0, none⟩ = some (.slice A0_0 l0_0.length c0_0) ∧ w'.cell? ⟨gb121, 1, none⟩ = some (.int .i64 a0_1) ∧ w'.cell? ⟨gb122, 0, none⟩ = some (.slice A1_0 l1_0.length c1_0) ∧ w'.cell? ⟨gb122, 1, none⟩ = some (.int .i64 a1_1)) ∧ (Kd.R (Kd.int .i64) 3 w' w.heap.size (fun _ => True) s_ y141) ∧ (w'.heap[gb121]? = some (.cells #[.slice A0_0 l0_0.length c0_0, .int .i64 a0_1] 24 (0, 0))) ∧ (w'.heap[gb122]? = some (.cells #[.slice A1_0 l1_0.length c1_0, .int .i64 a1_1] 24 (0, 0))) ∧ (Below w.heap.size w w')) ?_ ?_
          · skip
            rintro v142 w13 ⟨hS_, h0_, h1_, h2_, h3_⟩
            have n0_ : Aside0 (Kd.R (Kd.int .i64) 3 w13 w.heap.size (fun _ => True) v142 y141) := ⟨h0_⟩; have n1_ : Aside0 (w13.heap[gb121]? = some (.cells #[.slice A0_0 l0_0.length c0_0, .int .i64 a0_1] 24 (0, 0))) := ⟨h1_⟩; have n2_ : Aside0 (w13.heap[gb122]? = some (.cells #[.slice A1_0 l1_0.length c1_0, .int .i64 a1_1] 24 (0, 0))) := ⟨h2_⟩; have n3_ : Aside0 (Below w.heap.size w w13) := ⟨h3_⟩; clear BK121; clear BK122; clear HB; clear h0_ h1_ h2_ h3_; have HO143 := n0_; have BK121 := n1_; have BK122 := n2_; have HB := n3_; clear n0_ n1_ n2_ n3_
            have hHeld : w13.cell? ⟨gb121, 0, none⟩ = some (.slice A0_0 l0_0.length c0_0) ∧ w13.cell? ⟨gb121, 1, none⟩ = some (.int .i64 a0_1) ∧ w13.cell? ⟨gb122, 0, none⟩ = some (.slice A1_0 l1_0.length c1_0) ∧ w13.cell? ⟨gb122, 1, none⟩ = some (.int .i64 a1_1) := hS_
            refine norm_ (a' := ?_) ?_ ?_
            rotate_left
            · simp only [putAll, Act.put, List.setIfInBounds_toArray, List.set_cons_zero, List.set_cons_succ]
              rfl
            refine three_ (i := 0) (j := 6) (k := 8) (Ni := some 5) (Nj := some 11) (Nk := some 13) #[true, true, true, false, true, true, false, false, false, true, true, false, true, true, true, false, false, false] #[false, true, true, false, true, true, true, false, false, true, true, false, true, true, true, false, false, false] #[false, true, true, false, true, true, false, false, true, true, true, false, true, true, true, false, false, false] rfl rfl rfl rfl rfl rfl (three_of HT_.out (by kernel_rfl)) (by decide) (by decide) (by decide) (fun K hK => ?_) (fun K hK => ?_) (fun K hK => ?_)
            · skip
              refine Kd.R_lit_step (Kd.int .i64) _ 3 ?hg (N := 5) ?hd (xs := ([] : List Int)) (inner := []) (ok := fun _ => True) (okp := fun _ => True) ?hr ?hp (fun _ hk => hk) trivial (Below.refl _ _) (Nat.le_refl _) (by simp) ?_; (case hd => rfl); (case hg => rfl); (case hr => first | (go_simp; done) | (go_simp; rfl)); (case hp => exact (Reps.none _ _))
              intro v124 w14 ho15 hb hg_ hnew_
              clear hg_ hnew_
              (first | rw [← Ny123.out] at ho15 | (simp only [Int.reduceToNat] at ho15; rw [← Ny123.out] at ho15))
              have n0_ := mk (Kd.R_elder' HO143.out (Kd.R_base ho15) hb); have HO125 := mk (Kd.R_lower (Kd.R_new' ho15 (Kd.R_lt HO143.out)) (below_size HB.out)); have n2_ := mk (blk_below BK121.out hb); have n3_ := mk (blk_below BK122.out hb); have n4_ := mk (below_step HB.out hb); replace HO143 := n0_; replace BK121 := n2_; replace BK122 := n3_; replace HB := n4_; clear n0_ n2_ n3_ n4_; clear hb ho15
              refine hK.out _ _ ⟨(blk_cell BK121.out 0).trans rfl, (blk_cell BK121.out 1).trans rfl, (blk_cell BK122.out 0).trans rfl, (blk_cell BK122.out 1).trans rfl⟩ (fun hHeld => ?_)
              clear hK K
              refine norm_ (a' := ?_) ?_ ?_
              rotate_left
              · show Act.put _ (some 5) _ = _
                simp only [Act.put, List.setIfInBounds_toArray, List.set_cons_zero, List.set_cons_succ, i64_w, i32_w]
                rfl
              exact norm_ (by first | (simp only [putAll, Act.put, List.setIfInBounds_toArray, List.set_cons_zero, List.set_cons_succ]; done) | (simp only [putAll, Act.put, List.setIfInBounds_toArray, List.set_cons_zero, List.set_cons_succ]; rfl)) (hJ0_14 (v124, v142) _ ⟨hHeld, (by exact Kd.R_mono HO125.out (fun _ hk => hk.2)), (by exact Kd.R_mono HO143.out (fun _ hk => hk.2)), BK121.out, BK122.out, HB.out⟩)
            · skip
              refine Kd.R_lit_step (Kd.int .i64) _ 3 ?hg (N := 11) ?hd (xs := ([a0_1] : List Int)) (inner := [.int .i64 a0_1]) (ok := fun _ => True) (okp := fun _ => True) ?hr ?hp (fun _ hk => hk) trivial (Below.refl _ _) (Nat.le_refl _) (by simp) ?_; (case hd => rfl); (case hg => rfl); (case hr => first | (go_simp; done) | (go_simp; rfl)); (case hp => exact (Reps.one (show Kd.M (Kd.int .i64) _ _ _ a0_1 [.int .i64 a0_1] from rfl) (Reps.none _ _)))
              intro v130 w14 ho15 hb hg_ hnew_
              clear hg_ hnew_
              (first | rw [← Ny129.out] at ho15 | (simp only [Int.reduceToNat] at ho15; rw [← Ny129.out] at ho15))
              have n0_ := mk (Kd.R_elder' HO143.out (Kd.R_base ho15) hb); have HO131 := mk (Kd.R_lower (Kd.R_new' ho15 (Kd.R_lt HO143.out)) (below_size HB.out)); have n2_ := mk (blk_below BK121.out hb); have n3_ := mk (blk_below BK122.out hb); have n4_ := mk (below_step HB.out hb); replace HO143 := n0_; replace BK121 := n2_; replace BK122 := n3_; replace HB := n4_; clear n0_ n2_ n3_ n4_; clear hb ho15
              refine hK.out _ _ ⟨(blk_cell BK121.out 0).trans rfl, (blk_cell BK121.out 1).trans rfl, (blk_cell BK122.out 0).trans rfl, (blk_cell BK122.out 1).trans rfl⟩ (fun hHeld => ?_)
              clear hK K
              refine norm_ (a' := ?_) ?_ ?_
              rotate_left
              · show Act.put _ (some 11) _ = _
                simp only [Act.put, List.setIfInBounds_toArray, List.set_cons_zero, List.set_cons_succ, i64_w, i32_w]
                rfl
              exact norm_ (by first | (simp only [putAll, Act.put, List.setIfInBounds_toArray, List.set_cons_zero, List.set_cons_succ]; done) | (simp only [putAll, Act.put, List.setIfInBounds_toArray, List.set_cons_zero, List.set_cons_succ]; rfl)) (hJ6_14 (v130, v142) _ ⟨hHeld, (by exact Kd.R_mono HO131.out (fun _ hk => hk.2)), (by exact Kd.R_mono HO143.out (fun _ hk => hk.2)), BK121.out, BK122.out, HB.out⟩)
            · skip
              refine Kd.R_lit_step (Kd.int .i64) _ 3 ?hg (N := 13) ?hd (xs := ([] : List Int)) (inner := []) (ok := fun _ => True) (okp := fun _ => True) ?hr ?hp (fun _ hk => hk) trivial (Below.refl _ _) (Nat.le_refl _) (by simp) ?_; (case hd => rfl); (case hg => rfl); (case hr => first | (go_simp; done) | (go_simp; rfl)); (case hp => exact (Reps.none _ _))
              intro v136 w14 ho15 hb hg_ hnew_
              clear hg_ hnew_
              (first | rw [← Ny135.out] at ho15 | (simp only [Int.reduceToNat] at ho15; rw [← Ny135.out] at ho15))
              have n0_ := mk (Kd.R_elder' HO143.out (Kd.R_base ho15) hb); have HO137 := mk (Kd.R_lower (Kd.R_new' ho15 (Kd.R_lt HO143.out)) (below_size HB.out)); have n2_ := mk (blk_below BK121.out hb); have n3_ := mk (blk_below BK122.out hb); have n4_ := mk (below_step HB.out hb); replace HO143 := n0_; replace BK121 := n2_; replace BK122 := n3_; replace HB := n4_; clear n0_ n2_ n3_ n4_; clear hb ho15
              refine hK.out _ _ ⟨(blk_cell BK121.out 0).trans rfl, (blk_cell BK121.out 1).trans rfl, (blk_cell BK122.out 0).trans rfl, (blk_cell BK122.out 1).trans rfl⟩ (fun hHeld => ?_)
              clear hK K
              refine norm_ (a' := ?_) ?_ ?_
              rotate_left
              · show Act.put _ (some 13) _ = _
                simp only [Act.put, List.setIfInBounds_toArray, List.set_cons_zero, List.set_cons_succ, i64_w, i32_w]
                rfl
              exact norm_ (by first | (simp only [putAll, Act.put, List.setIfInBounds_toArray, List.set_cons_zero, List.set_cons_succ]; done) | (simp only [putAll, Act.put, List.setIfInBounds_toArray, List.set_cons_zero, List.set_cons_succ]; rfl)) (hJ8_14 (v136, v142) _ ⟨hHeld, (by exact Kd.R_mono HO137.out (fun _ hk => hk.2)), (by exact Kd.R_mono HO143.out (fun _ hk => hk.2)), BK121.out, BK122.out, HB.out⟩)
          intro hJ14
          refine four_ (i := 0) (j := 6) (k := 8) (m := 14) (Ni := some 5) (Nj := some 11) (Nk := some 13) (Nm := some 19) #[true, true, true, false, true, true, false, false, false, true, true, false, true, true, false, false, false, false] #[false, true, true, false, true, true, true, false, false, true, true, false, true, true, false, false, false, false] #[false, true, true, false, true, true, false, false, true, true, true, false, true, true, false, false, false, false] #[false, true, true, false, true, true, false, false, false, true, true, false, true, true, true, false, false, false] rfl rfl rfl rfl rfl rfl rfl rfl (four_of HT_.out (by kernel_rfl)) (by decide) (by decide) (by decide) (by decide) (fun K hK => ?_) (fun K hK => ?_) (fun K hK => ?_) (fun K hK => ?_)
          · skip
            refine Kd.R_lit_step (Kd.int .i64) _ 3 ?hg (N := 5) ?hd (xs := ([] : List Int)) (inner := []) (ok := fun _ => True) (okp := fun _ => True) ?hr ?hp (fun _ hk => hk) trivial (Below.refl _ _) (Nat.le_refl _) (by simp) ?_; (case hd => rfl); (case hg => rfl); (case hr => first | (go_simp; done) | (go_simp; rfl)); (case hp => exact (Reps.none _ _))
            intro v124 w11 ho12 hb hg_ hnew_
            clear hg_ hnew_
            (first | rw [← Ny123.out] at ho12 | (simp only [Int.reduceToNat] at ho12; rw [← Ny123.out] at ho12))
            have HO125 := mk (Kd.R_lower ho12 (below_size HB.out)); have n1_ := mk (blk_below BK121.out hb); have n2_ := mk (blk_below BK122.out hb); have n3_ := mk (below_step HB.out hb); replace BK121 := n1_; replace BK122 := n2_; replace HB := n3_; clear n1_ n2_ n3_; clear hb ho12
            refine hK.out _ _ ⟨(blk_cell BK121.out 0).trans rfl, (blk_cell BK121.out 1).trans rfl, (blk_cell BK122.out 0).trans rfl, (blk_cell BK122.out 1).trans rfl⟩ (fun hHeld => ?_)
            clear hK K
            refine norm_ (a' := ?_) ?_ ?_
            rotate_left
            · show Act.put _ (some 5) _ = _
              simp only [Act.put, List.setIfInBounds_toArray, List.set_cons_zero, List.set_cons_succ, i64_w, i32_w]
              rfl
            exact norm_ (by first | (simp only [putAll, Act.put, List.setIfInBounds_toArray, List.set_cons_zero, List.set_cons_succ]; done) | (simp only [putAll, Act.put, List.setIfInBounds_toArray, List.set_cons_zero, List.set_cons_succ]; rfl)) (hJ0 (v124) _ ⟨hHeld, HO125.out, BK121.out, BK122.out, HB.out⟩)
          · skip
            refine Kd.R_lit_step (Kd.int .i64) _ 3 ?hg (N := 11) ?hd (xs := ([a0_1] : List Int)) (inner := [.int .i64 a0_1]) (ok := fun _ => True) (okp := fun _ => True) ?hr ?hp (fun _ hk => hk) trivial (Below.refl _ _) (Nat.le_refl _) (by simp) ?_; (case hd => rfl); (case hg => rfl); (case hr => first | (go_simp; done) | (go_simp; rfl)); (case hp => exact (Reps.one (show Kd.M (Kd.int .i64) _ _ _ a0_1 [.int .i64 a0_1] from rfl) (Reps.none _ _)))
            intro v130 w11 ho12 hb hg_ hnew_
            clear hg_ hnew_
            (first | rw [← Ny129.out] at ho12 | (simp only [Int.reduceToNat] at ho12; rw [← Ny129.out] at ho12))
            have HO131 := mk (Kd.R_lower ho12 (below_size HB.out)); have n1_ := mk (blk_below BK121.out hb); have n2_ := mk (blk_below BK122.out hb); have n3_ := mk (below_step HB.out hb); replace BK121 := n1_; replace BK122 := n2_; replace HB := n3_; clear n1_ n2_ n3_; clear hb ho12
            refine hK.out _ _ ⟨(blk_cell BK121.out 0).trans rfl, (blk_cell BK121.out 1).trans rfl, (blk_cell BK122.out 0).trans rfl, (blk_cell BK122.out 1).trans rfl⟩ (fun hHeld => ?_)
            clear hK K
            refine norm_ (a' := ?_) ?_ ?_
            rotate_left
            · show Act.put _ (some 11) _ = _
              simp only [Act.put, List.setIfInBounds_toArray, List.set_cons_zero, List.set_cons_succ, i64_w, i32_w]
              rfl
            exact norm_ (by first | (simp only [putAll, Act.put, List.setIfInBounds_toArray, List.set_cons_zero, List.set_cons_succ]; done) | (simp only [putAll, Act.put, List.setIfInBounds_toArray, List.set_cons_zero, List.set_cons_succ]; rfl)) (hJ6 (v130) _ ⟨hHeld, HO131.out, BK121.out, BK122.out, HB.out⟩)
          · skip
            refine Kd.R_lit_step (Kd.int .i64) _ 3 ?hg (N := 13) ?hd (xs := ([] : List Int)) (inner := []) (ok := fun _ => True) (okp := fun _ => True) ?hr ?hp (fun _ hk => hk) trivial (Below.refl _ _) (Nat.le_refl _) (by simp) ?_; (case hd => rfl); (case hg => rfl); (case hr => first | (go_simp; done) | (go_simp; rfl)); (case hp => exact (Reps.none _ _))
            intro v136 w11 ho12 hb hg_ hnew_
            clear hg_ hnew_
            (first | rw [← Ny135.out] at ho12 | (simp only [Int.reduceToNat] at ho12; rw [← Ny135.out] at ho12))
            have HO137 := mk (Kd.R_lower ho12 (below_size HB.out)); have n1_ := mk (blk_below BK121.out hb); have n2_ := mk (blk_below BK122.out hb); have n3_ := mk (below_step HB.out hb); replace BK121 := n1_; replace BK122 := n2_; replace HB := n3_; clear n1_ n2_ n3_; clear hb ho12
            refine hK.out _ _ ⟨(blk_cell BK121.out 0).trans rfl, (blk_cell BK121.out 1).trans rfl, (blk_cell BK122.out 0).trans rfl, (blk_cell BK122.out 1).trans rfl⟩ (fun hHeld => ?_)
            clear hK K
            refine norm_ (a' := ?_) ?_ ?_
            rotate_left
            · show Act.put _ (some 13) _ = _
              simp only [Act.put, List.setIfInBounds_toArray, List.set_cons_zero, List.set_cons_succ, i64_w, i32_w]
              rfl
            exact norm_ (by first | (simp only [putAll, Act.put, List.setIfInBounds_toArray, List.set_cons_zero, List.set_cons_succ]; done) | (simp only [putAll, Act.put, List.setIfInBounds_toArray, List.set_cons_zero, List.set_cons_succ]; rfl)) (hJ8 (v136) _ ⟨hHeld, HO137.out, BK121.out, BK122.out, HB.out⟩)
          · skip
            refine Kd.R_lit_step (Kd.int .i64) _ 3 ?hg (N := 19) ?hd (xs := ([a1_1] : List Int)) (inner := [.int .i64 a1_1]) (ok := fun _ => True) (okp := fun _ => True) ?hr ?hp (fun _ hk => hk) trivial (Below.refl _ _) (Nat.le_refl _) (by simp) ?_; (case hd => rfl); (case hg => rfl); (case hr => first | (go_simp; done) | (go_simp; rfl)); (case hp => exact (Reps.one (show Kd.M (Kd.int .i64) _ _ _ a1_1 [.int .i64 a1_1] from rfl) (Reps.none _ _)))
            intro v142 w11 ho12 hb hg_ hnew_
            clear hg_ hnew_
            (first | rw [← Ny141.out] at ho12 | (simp only [Int.reduceToNat] at ho12; rw [← Ny141.out] at ho12))
            have HO143 := mk (Kd.R_lower ho12 (below_size HB.out)); have n1_ := mk (blk_below BK121.out hb); have n2_ := mk (blk_below BK122.out hb); have n3_ := mk (below_step HB.out hb); replace BK121 := n1_; replace BK122 := n2_; replace HB := n3_; clear n1_ n2_ n3_; clear hb ho12
            refine hK.out _ _ ⟨(blk_cell BK121.out 0).trans rfl, (blk_cell BK121.out 1).trans rfl, (blk_cell BK122.out 0).trans rfl, (blk_cell BK122.out 1).trans rfl⟩ (fun hHeld => ?_)
            clear hK K
            refine norm_ (a' := ?_) ?_ ?_
            rotate_left
            · show Act.put _ (some 19) _ = _
              simp only [Act.put, List.setIfInBounds_toArray, List.set_cons_zero, List.set_cons_succ, i64_w, i32_w]
              rfl
            exact norm_ (by first | (simp only [putAll, Act.put, List.setIfInBounds_toArray, List.set_cons_zero, List.set_cons_succ]; done) | (simp only [putAll, Act.put, List.setIfInBounds_toArray, List.set_cons_zero, List.set_cons_succ]; rfl)) (hJ14 (v142) _ ⟨hHeld, HO143.out, BK121.out, BK122.out, HB.out⟩)
        · rw [if_neg c6] at H
          exact absurd H (by simp)
      · rw [if_neg c5] at H
        exact absurd H (by simp)
    · rw [if_neg c4] at H
      exact absurd H (by simp)
  · rw [if_neg c3] at H
    exact absurd H (by simp)

end Go.Proofs.Ytcakhbhjdpplcaa.Cq
