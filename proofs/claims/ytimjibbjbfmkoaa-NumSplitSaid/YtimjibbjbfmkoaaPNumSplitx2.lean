-- PRINTED BY print.sh 35421559b90ae4d0a3588c463048766b98c2df88dd9212a6774a882060cdf62d: not written by this session
import Derived.Test.YtimjibbjbfmkoaaPNumSplitx0
import Derived.Test.YtimjibbjbfmkoaaPNumSplitx1
namespace Go.Proofs.Ytimjibbjbfmkoaa.PNumSplit
open Go.RowKit Go.Proofs.YtimjibbjbfmkoaaW.PrintWords Go.Proofs.YtimjibbjbfmkoaaW.PrintLast Go.Proofs.YtimjibbjbfmkoaaW.PrintMore
attribute [local go_sem] max2_int min2_int max_two min_two max_three min_three max_four min_four   -- for this text's walks alone
set_option linter.unusedVariables false
set_option linter.unusedSimpArgs false

/-! ### headlandlaw01_NumSplit: function 8 -/
mutual
def headlandlaw01_NumSplit.j0 : Nat → Int → Int → Int → Int → Int → Int → Bool → Option (Bool)
  | 0, _, _, _, _, _, _, _ => none
  | k + 1, x0, x1, x5, x6, x7, x8, x24 => if x24 = true then (if x8 = 6 then (if x5 = 0 then (if x6 = 0 then (if x7 = 0 then ((headlandlaw01_awake.f k).bind fun t126 => (some t126)) else (some false)) else (some false)) else (some false)) else (some false)) else (if x8 = 0 then (if (wrap64 ((wrap64 (x0 * x6)) + (wrap64 (x1 * x7)))) = x5 then (headlandlaw01_NumSplit.j1 k x0 x1 x5 x6 x7 (decide (x5 < 0))) else (headlandlaw01_NumSplit.j1 k x0 x1 x5 x6 x7 true)) else (headlandlaw01_NumSplit.j1 k x0 x1 x5 x6 x7 true))
def headlandlaw01_NumSplit.j1 : Nat → Int → Int → Int → Int → Int → Bool → Option (Bool)
  | 0, _, _, _, _, _, _ => none
  | k + 1, x0, x1, x5, x6, x7, x58 => if x58 = true then (some false) else (if x1 = 0 then (if x7 = 0 then (if x5 = (mx x0 (wrap64 (-x0))) then ((headlandlaw01_awake.f k).bind fun t127 => (some t127)) else (some false)) else (some false)) else (if x5 > 0 then (if x5 = 0 then (none) else (if (Int.tmod x0 x5) = 0 then (if (Int.tmod x1 x5) = 0 then (if x6 ≥ 0 then (if x6 < (wrap64 (Int.tdiv (mx x1 (wrap64 (-x1))) x5)) then ((headlandlaw01_awake.f k).bind fun t128 => (some t128)) else (some false)) else (some false)) else (some false)) else (some false))) else (some false)))
end
def headlandlaw01_NumSplit.f (k : Nat) (a0 : Int) (a1 : Int) : Option (Bool) := (num_Split.f k a0 a1).bind fun bt120 => ((headlandref01_Fits.f a0).bind fun t124 => (if t124 = true then ((headlandref01_Fits.f a1).bind fun t125 => (headlandlaw01_NumSplit.j0 k a0 a1 bt120.1 bt120.2.1 bt120.2.2.1 bt120.2.2.2 (!t125))) else (headlandlaw01_NumSplit.j0 k a0 a1 bt120.1 bt120.2.1 bt120.2.2.1 bt120.2.2.2 true)))
theorem headlandlaw01_NumSplit.mono_l : ∀ k, (∀ y0 y1 y2 y3 y4 y5 y6, LeO (headlandlaw01_NumSplit.j0 k y0 y1 y2 y3 y4 y5 y6) (headlandlaw01_NumSplit.j0 (k + 1) y0 y1 y2 y3 y4 y5 y6)) ∧ (∀ y0 y1 y2 y3 y4 y5, LeO (headlandlaw01_NumSplit.j1 k y0 y1 y2 y3 y4 y5) (headlandlaw01_NumSplit.j1 (k + 1) y0 y1 y2 y3 y4 y5))
  | 0 => ⟨fun _ _ _ _ _ _ _ r h => by simp [headlandlaw01_NumSplit.j0] at h, fun _ _ _ _ _ _ r h => by simp [headlandlaw01_NumSplit.j1] at h⟩
  | k + 1 => by
    obtain ⟨ih0, ih1⟩ := headlandlaw01_NumSplit.mono_l k
    refine ⟨?_, ?_⟩
    · intro y0 y1 y2 y3 y4 y5 y6
      unfold headlandlaw01_NumSplit.j0
      repeat' first
      | (with_reducible exact ih0 _ _ _ _ _ _ _)
      | (with_reducible exact ih1 _ _ _ _ _ _)
      | (with_reducible exact headlandlaw01_awake.mono _)
      | (with_reducible exact num_Split.mono _ _ _)
      | (with_reducible exact LeO.refl _)
      | (with_reducible exact LeO.none _)
      | (with_reducible refine LeO.ite ?_ ?_)
      | (with_reducible refine LeO.bind ?_ (fun _ => ?_))
      | exact ih0 _ _ _ _ _ _ _
      | exact ih1 _ _ _ _ _ _
      | exact headlandlaw01_awake.mono _
      | exact num_Split.mono _ _ _
      | exact LeO.none _
      | refine LeO.ite ?_ ?_
      | refine LeO.bind ?_ (fun _ => ?_)
    · intro y0 y1 y2 y3 y4 y5
      unfold headlandlaw01_NumSplit.j1
      repeat' first
      | (with_reducible exact ih0 _ _ _ _ _ _ _)
      | (with_reducible exact ih1 _ _ _ _ _ _)
      | (with_reducible exact headlandlaw01_awake.mono _)
      | (with_reducible exact num_Split.mono _ _ _)
      | (with_reducible exact LeO.refl _)
      | (with_reducible exact LeO.none _)
      | (with_reducible refine LeO.ite ?_ ?_)
      | (with_reducible refine LeO.bind ?_ (fun _ => ?_))
      | exact ih0 _ _ _ _ _ _ _
      | exact ih1 _ _ _ _ _ _
      | exact headlandlaw01_awake.mono _
      | exact num_Split.mono _ _ _
      | exact LeO.none _
      | refine LeO.ite ?_ ?_
      | refine LeO.bind ?_ (fun _ => ?_)
theorem headlandlaw01_NumSplit.mono : ∀ a0 a1 k, LeO (headlandlaw01_NumSplit.f k a0 a1) (headlandlaw01_NumSplit.f (k + 1) a0 a1) := by
  intro a0 a1 k
  obtain ⟨ih0, ih1⟩ := headlandlaw01_NumSplit.mono_l k
  unfold headlandlaw01_NumSplit.f
  repeat' first
      | (with_reducible exact ih0 _ _ _ _ _ _ _)
      | (with_reducible exact ih1 _ _ _ _ _ _)
      | (with_reducible exact headlandlaw01_awake.mono _)
      | (with_reducible exact num_Split.mono _ _ _)
      | (with_reducible exact LeO.refl _)
      | (with_reducible exact LeO.none _)
      | (with_reducible refine LeO.ite ?_ ?_)
      | (with_reducible refine LeO.bind ?_ (fun _ => ?_))
      | exact ih0 _ _ _ _ _ _ _
      | exact ih1 _ _ _ _ _ _
      | exact headlandlaw01_awake.mono _
      | exact num_Split.mono _ _ _
      | exact LeO.none _
      | refine LeO.ite ?_ ?_
      | refine LeO.bind ?_ (fun _ => ?_)
set_option maxHeartbeats 8000000 in
set_option maxRecDepth 100000 in
theorem headlandlaw01_NumSplit.calls (k : Nat) (a0 : Int) (a1 : Int) (r : Bool) (w : World) (h : headlandlaw01_NumSplit.f k a0 a1 = some r) :
    Calls Try.prog 8 #[.int .i64 a0, .int .i64 a1] w fun e w' => e = .returned (.bool r) ∧ Below w.heap.size w w' := by
  have HB := Aside0.mk (Below.refl w.heap.size w)
  have H : ((num_Split.f k a0 a1).bind fun bt120 => ((headlandref01_Fits.f a0).bind fun t124 => (if t124 = true then ((headlandref01_Fits.f a1).bind fun t125 => (headlandlaw01_NumSplit.j0 k a0 a1 bt120.1 bt120.2.1 bt120.2.2.1 bt120.2.2.2 (!t125))) else (headlandlaw01_NumSplit.j0 k a0 a1 bt120.1 bt120.2.1 bt120.2.2.1 bt120.2.2.2 true)))) = some r := h
  clear h
  replace H := Option.bind_eq_some_iff.mp H
  obtain ⟨⟨t120, t121, t122, t123⟩, A30, H⟩ := H
  replace H : ((headlandref01_Fits.f a0).bind fun t124 => (if t124 = true then ((headlandref01_Fits.f a1).bind fun t125 => (headlandlaw01_NumSplit.j0 k a0 a1 t120 t121 t122 t123 (!t125))) else (headlandlaw01_NumSplit.j0 k a0 a1 t120 t121 t122 t123 true))) = some r := H
  have A3 := Aside0.mk A30
  clear A30
  have HC4 := Aside0.mk H
  clear H
  go_enter Try.func8, Try.ntmps8
  go_upto_region 2 with (first | ((with_reducible refine gate_callee (f := 23) rfl ?_); refine goesL_ (some 12) rfl rfl Try.func23 (by kernel_rfl) rfl #[.int .i64 a0, .int .i64 a1] rfl (by (try simp only [List.map_toArray, List.map_cons, List.map_nil]); first | done | rfl | (simp only [List.length_drop, List.length_take]; rfl)) ?_; (with_reducible refine (num_Split.calls k a0 a1 t120 t121 t122 t123 _ A3.out).mono ?_); rintro e w' ⟨rfl, ⟨nd, rfl⟩⟩; refine ⟨_, rfl, ?_⟩))
  (try simp only [Act.put, List.setIfInBounds_toArray, List.set_cons_zero, List.set_cons_succ])
  go_cut [24] (fun v24 wc => ∃ (kq : Nat) (x24_3 : Bool), v24 = .bool x24_3 ∧ Aside0 (headlandlaw01_NumSplit.j0 kq a0 a1 t120 t121 t122 t123 x24_3 = some r) ∧ Aside0 (kq ≤ k) ∧ Aside0 (Below w.heap.size w wc))
  case first =>
    have H := HC4.out
    clear HC4
    replace H := Option.bind_eq_some_iff.mp H
    obtain ⟨t124, A50, H⟩ := H
    replace H : (if t124 = true then ((headlandref01_Fits.f a1).bind fun t125 => (headlandlaw01_NumSplit.j0 k a0 a1 t120 t121 t122 t123 (!t125))) else (headlandlaw01_NumSplit.j0 k a0 a1 t120 t121 t122 t123 true)) = some r := H
    have A5 := Aside0.mk A50
    clear A50
    by_cases c6 : t124 = true
    · subst c6
      have H1 : ((headlandref01_Fits.f a1).bind fun t125 => (headlandlaw01_NumSplit.j0 k a0 a1 t120 t121 t122 t123 (!t125))) = some r := by rw [if_pos rfl] at H; exact H
      clear H
      have H := H1
      clear H1
      replace H := Option.bind_eq_some_iff.mp H
      obtain ⟨t125, A70, H⟩ := H
      replace H : (headlandlaw01_NumSplit.j0 k a0 a1 t120 t121 t122 t123 (!t125)) = some r := H
      have A7 := Aside0.mk A70
      clear A70
      have H' := Aside0.mk H
      clear H
      go_wp2_with (first | ((with_reducible refine gate_callee (f := 20) rfl ?_); refine goesL_ (some 18) rfl rfl Try.func20 (by kernel_rfl) rfl #[.int .i64 a0] rfl (by (try simp only [List.map_toArray, List.map_cons, List.map_nil]); first | done | rfl | (simp only [List.length_drop, List.length_take]; rfl)) ?_; (with_reducible refine (headlandref01_Fits.calls a0 true _ A5.out).mono ?_); rintro e w' ⟨rfl, ⟨nd, rfl⟩⟩; refine ⟨_, rfl, ?_⟩) | (go_at_call 20; (with_reducible refine (headlandref01_Fits.calls a1 t125 _ A7.out).mono ?_); rintro e w' ⟨rfl, ⟨nd, rfl⟩⟩))
      go_meet
      case rel => exact ⟨_, (!t125), (by first | rfl | (simp; done) | (simp [*]; done)), H', ⟨by first | omega | exact Nat.le_refl _⟩, ⟨by repeat (first | (with_reducible first | exact HB.out | apply below_alloc | apply pw_below_drewN | apply below_drew1) | exact HB.out)⟩⟩
    · replace c6 := Bool.eq_false_iff.mpr c6
      subst c6
      have H1 : (headlandlaw01_NumSplit.j0 k a0 a1 t120 t121 t122 t123 true) = some r := by rw [if_neg (show ¬ (false = true) by decide)] at H; exact H
      clear H
      have H := H1
      clear H1
      have H' := Aside0.mk H
      clear H
      go_wp2_with (first | ((with_reducible refine gate_callee (f := 20) rfl ?_); refine goesL_ (some 18) rfl rfl Try.func20 (by kernel_rfl) rfl #[.int .i64 a0] rfl (by (try simp only [List.map_toArray, List.map_cons, List.map_nil]); first | done | rfl | (simp only [List.length_drop, List.length_take]; rfl)) ?_; (with_reducible refine (headlandref01_Fits.calls a0 false _ A5.out).mono ?_); rintro e w' ⟨rfl, ⟨nd, rfl⟩⟩; refine ⟨_, rfl, ?_⟩))
      go_meet
      case rel => exact ⟨_, (true), (by first | rfl | (simp; done) | (simp [*]; done)), H', ⟨by first | omega | exact Nat.le_refl _⟩, ⟨by repeat (first | (with_reducible first | exact HB.out | apply below_alloc | apply pw_below_drewN | apply below_drew1) | exact HB.out)⟩⟩
  case rest =>
    clear HC4
    try clear c2
    try clear p2
    try clear c6
    obtain ⟨kq, x24_3, rfl, HA, HJ3, HB⟩ := hcut
    cases kq with
    | zero => exact absurd HA.out (by simp [headlandlaw01_NumSplit.j0])
    | succ kj3 =>
      have H := HA.out
      clear HA
      simp only [headlandlaw01_NumSplit.j0] at H
      by_cases c8 : x24_3 = true
      · subst c8
        have H1 : (if t123 = 6 then (if t120 = 0 then (if t121 = 0 then (if t122 = 0 then ((headlandlaw01_awake.f kj3).bind fun t126 => (some t126)) else (some false)) else (some false)) else (some false)) else (some false)) = some r := by rw [if_pos rfl] at H; exact H
        clear H
        have H := H1
        clear H1
        by_cases c9 : t123 = 6
        · rw [if_pos c9] at H
          have c9b0 : (t123 == 6) = true := beq_iff_eq.mpr c9
          have c9b1 : (t123 != 6) = false := bne_eq_false_iff_eq.mpr c9
          clear c9
          by_cases c10 : t120 = 0
          · rw [if_pos c10] at H
            have c10b0 : (t120 == 0) = true := beq_iff_eq.mpr c10
            have c10b1 : (t120 != 0) = false := bne_eq_false_iff_eq.mpr c10
            clear c10
            by_cases c11 : t121 = 0
            · rw [if_pos c11] at H
              have c11b0 : (t121 == 0) = true := beq_iff_eq.mpr c11
              have c11b1 : (t121 != 0) = false := bne_eq_false_iff_eq.mpr c11
              clear c11
              by_cases c12 : t122 = 0
              · rw [if_pos c12] at H
                have c12b0 : (t122 == 0) = true := beq_iff_eq.mpr c12
                have c12b1 : (t122 != 0) = false := bne_eq_false_iff_eq.mpr c12
                clear c12
                replace H := Option.bind_eq_some_iff.mp H
                obtain ⟨t126, A130, H⟩ := H
                replace H : (some t126) = some r := H
                have A13 := Aside0.mk A130
                clear A130
                obtain rfl := Option.some.inj H
                go_wp2_with (first | (go_at_call 18; (with_reducible refine (headlandlaw01_awake.calls kj3  t126 _ A13.out).mono ?_); rintro e w' ⟨rfl, ⟨nd, rfl⟩⟩))
                go_ret
                exact ⟨by first | rfl | (simp [errW_none, errW_some] <;> rfl) | (simp [*, errW_none, errW_some] <;> rfl), by repeat (first | (with_reducible first | exact HB.out | apply below_alloc | apply pw_below_drewN | apply below_drew1) | exact HB.out)⟩
              · rw [if_neg c12] at H
                have c12b0 : (t122 == 0) = false := beq_eq_false_iff_ne.mpr c12
                have c12b1 : (t122 != 0) = true := bne_iff_ne.mpr c12
                obtain rfl := Option.some.inj H
                go_wp2
                go_ret
                exact ⟨by first | rfl | (simp [errW_none, errW_some] <;> rfl) | (simp [*, errW_none, errW_some] <;> rfl), by repeat (first | (with_reducible first | exact HB.out | apply below_alloc | apply pw_below_drewN | apply below_drew1) | exact HB.out)⟩
            · rw [if_neg c11] at H
              have c11b0 : (t121 == 0) = false := beq_eq_false_iff_ne.mpr c11
              have c11b1 : (t121 != 0) = true := bne_iff_ne.mpr c11
              obtain rfl := Option.some.inj H
              go_wp2
              go_ret
              exact ⟨by first | rfl | (simp [errW_none, errW_some] <;> rfl) | (simp [*, errW_none, errW_some] <;> rfl), by repeat (first | (with_reducible first | exact HB.out | apply below_alloc | apply pw_below_drewN | apply below_drew1) | exact HB.out)⟩
          · rw [if_neg c10] at H
            have c10b0 : (t120 == 0) = false := beq_eq_false_iff_ne.mpr c10
            have c10b1 : (t120 != 0) = true := bne_iff_ne.mpr c10
            obtain rfl := Option.some.inj H
            go_wp2
            go_ret
            exact ⟨by first | rfl | (simp [errW_none, errW_some] <;> rfl) | (simp [*, errW_none, errW_some] <;> rfl), by repeat (first | (with_reducible first | exact HB.out | apply below_alloc | apply pw_below_drewN | apply below_drew1) | exact HB.out)⟩
        · rw [if_neg c9] at H
          have c9b0 : (t123 == 6) = false := beq_eq_false_iff_ne.mpr c9
          have c9b1 : (t123 != 6) = true := bne_iff_ne.mpr c9
          obtain rfl := Option.some.inj H
          go_wp2
          go_ret
          exact ⟨by first | rfl | (simp [errW_none, errW_some] <;> rfl) | (simp [*, errW_none, errW_some] <;> rfl), by repeat (first | (with_reducible first | exact HB.out | apply below_alloc | apply pw_below_drewN | apply below_drew1) | exact HB.out)⟩
      · replace c8 := Bool.eq_false_iff.mpr c8
        subst c8
        have H1 : (if t123 = 0 then (if (wrap64 ((wrap64 (a0 * t121)) + (wrap64 (a1 * t122)))) = t120 then (headlandlaw01_NumSplit.j1 kj3 a0 a1 t120 t121 t122 (decide (t120 < 0))) else (headlandlaw01_NumSplit.j1 kj3 a0 a1 t120 t121 t122 true)) else (headlandlaw01_NumSplit.j1 kj3 a0 a1 t120 t121 t122 true)) = some r := by rw [if_neg (show ¬ (false = true) by decide)] at H; exact H
        clear H
        have H := H1
        clear H1
        have HC14 := Aside0.mk H
        clear H
        go_upto_region 4 with (fail)
        go_cut [58] (fun v58 wc => ∃ (kq : Nat) (x58_13 : Bool), v58 = .bool x58_13 ∧ Aside0 (headlandlaw01_NumSplit.j1 kq a0 a1 t120 t121 t122 x58_13 = some r) ∧ Aside0 (kq ≤ kj3) ∧ Aside0 (Below w.heap.size w wc))
        case first =>
          have H := HC14.out
          clear HC14
          by_cases c15 : t123 = 0
          · rw [if_pos c15] at H
            have c15b0 : (t123 == 0) = true := beq_iff_eq.mpr c15
            have c15b1 : (t123 != 0) = false := bne_eq_false_iff_eq.mpr c15
            clear c15
            (first | rw [c15b0] | (simp only [i64_w, i32_w]; rw [c15b0]) | skip)
            by_cases c16 : (wrap64 ((wrap64 (a0 * t121)) + (wrap64 (a1 * t122)))) = t120
            · rw [if_pos c16] at H
              have c16b0 : ((wrap64 ((wrap64 (a0 * t121)) + (wrap64 (a1 * t122)))) == t120) = true := beq_iff_eq.mpr c16
              have c16b1 : ((wrap64 ((wrap64 (a0 * t121)) + (wrap64 (a1 * t122)))) != t120) = false := bne_eq_false_iff_eq.mpr c16
              clear c16
              have H' := Aside0.mk H
              clear H
              go_wp2
              go_meet
              case rel => exact ⟨_, (decide (t120 < 0)), (by first | rfl | (simp; done) | (simp [*]; done)), H', ⟨by have := HJ3.out; first | omega | exact Nat.le_refl _⟩, ⟨by repeat (first | (with_reducible first | exact HB.out | apply below_alloc | apply pw_below_drewN | apply below_drew1) | exact HB.out)⟩⟩
            · rw [if_neg c16] at H
              have c16b0 : ((wrap64 ((wrap64 (a0 * t121)) + (wrap64 (a1 * t122)))) == t120) = false := beq_eq_false_iff_ne.mpr c16
              have c16b1 : ((wrap64 ((wrap64 (a0 * t121)) + (wrap64 (a1 * t122)))) != t120) = true := bne_iff_ne.mpr c16
              have H' := Aside0.mk H
              clear H
              go_wp2
              go_meet
              case rel => exact ⟨_, (true), (by first | rfl | (simp; done) | (simp [*]; done)), H', ⟨by have := HJ3.out; first | omega | exact Nat.le_refl _⟩, ⟨by repeat (first | (with_reducible first | exact HB.out | apply below_alloc | apply pw_below_drewN | apply below_drew1) | exact HB.out)⟩⟩
          · rw [if_neg c15] at H
            have c15b0 : (t123 == 0) = false := beq_eq_false_iff_ne.mpr c15
            have c15b1 : (t123 != 0) = true := bne_iff_ne.mpr c15
            (first | rw [c15b0] | (simp only [i64_w, i32_w]; rw [c15b0]) | skip)
            have H' := Aside0.mk H
            clear H
            go_wp2
            go_meet
            case rel => exact ⟨_, (true), (by first | rfl | (simp; done) | (simp [*]; done)), H', ⟨by have := HJ3.out; first | omega | exact Nat.le_refl _⟩, ⟨by repeat (first | (with_reducible first | exact HB.out | apply below_alloc | apply pw_below_drewN | apply below_drew1) | exact HB.out)⟩⟩
        case rest =>
          clear HC14
          try clear c1
          try clear c2
          try clear p2
          try clear c6
          try clear p6
          try clear c8
          try clear c9
          try clear c9b0
          try clear c9b1
          try clear c10
          try clear c10b0
          try clear c10b1
          try clear c11
          try clear c11b0
          try clear c11b1
          try clear c12
          try clear c12b0
          try clear c12b1
          try clear c15
          try clear c15b0
          try clear c15b1
          try clear c16
          try clear c16b0
          try clear c16b1
          try clear p2
          obtain ⟨kq, x58_13, rfl, HA, HJ13, HB⟩ := hcut
          cases kq with
          | zero => exact absurd HA.out (by simp [headlandlaw01_NumSplit.j1])
          | succ kj13 =>
            have H := HA.out
            clear HA
            simp only [headlandlaw01_NumSplit.j1] at H
            by_cases c17 : x58_13 = true
            · subst c17
              have H1 : (some false) = some r := by rw [if_pos rfl] at H; exact H
              clear H
              have H := H1
              clear H1
              obtain rfl := Option.some.inj H
              go_wp2
              go_ret
              exact ⟨by first | rfl | (simp [errW_none, errW_some] <;> rfl) | (simp [*, errW_none, errW_some] <;> rfl), by repeat (first | (with_reducible first | exact HB.out | apply below_alloc | apply pw_below_drewN | apply below_drew1) | exact HB.out)⟩
            · replace c17 := Bool.eq_false_iff.mpr c17
              subst c17
              have H1 : (if a1 = 0 then (if t122 = 0 then (if t120 = (mx a0 (wrap64 (-a0))) then ((headlandlaw01_awake.f kj13).bind fun t127 => (some t127)) else (some false)) else (some false)) else (if t120 > 0 then (if t120 = 0 then (none) else (if (Int.tmod a0 t120) = 0 then (if (Int.tmod a1 t120) = 0 then (if t121 ≥ 0 then (if t121 < (wrap64 (Int.tdiv (mx a1 (wrap64 (-a1))) t120)) then ((headlandlaw01_awake.f kj13).bind fun t128 => (some t128)) else (some false)) else (some false)) else (some false)) else (some false))) else (some false))) = some r := by rw [if_neg (show ¬ (false = true) by decide)] at H; exact H
              clear H
              have H := H1
              clear H1
              by_cases c18 : a1 = 0
              · rw [if_pos c18] at H
                have c18b0 : (a1 == 0) = true := beq_iff_eq.mpr c18
                have c18b1 : (a1 != 0) = false := bne_eq_false_iff_eq.mpr c18
                clear c18
                by_cases c19 : t122 = 0
                · rw [if_pos c19] at H
                  have c19b0 : (t122 == 0) = true := beq_iff_eq.mpr c19
                  have c19b1 : (t122 != 0) = false := bne_eq_false_iff_eq.mpr c19
                  clear c19
                  obtain ⟨ji20, hji20⟩ : ∃ j_ : Int, (mx a0 (wrap64 (-a0))) = j_ := ⟨_, rfl⟩
                  replace H : (if t120 = (ji20) then ((headlandlaw01_awake.f kj13).bind fun t127 => (some t127)) else (some false)) = some r := by first | (rw [hji20] at H; exact H) | (simp only [hji20] at H ⊢; exact H)
                  have hji20_ : (if a0 < (wrap64 (-a0)) then (wrap64 (-a0)) else a0) = ji20 := hji20
                  by_cases c21 : t120 = (ji20)
                  · rw [if_pos c21] at H
                    have c21b0 : (t120 == (ji20)) = true := beq_iff_eq.mpr c21
                    have c21b1 : (t120 != (ji20)) = false := bne_eq_false_iff_eq.mpr c21
                    clear c21
                    replace H := Option.bind_eq_some_iff.mp H
                    obtain ⟨t127, A220, H⟩ := H
                    replace H : (some t127) = some r := H
                    have A22 := Aside0.mk A220
                    clear A220
                    obtain rfl := Option.some.inj H
                    go_wp2_with (first | (go_at_call 18; (with_reducible refine (headlandlaw01_awake.calls kj13  t127 _ A22.out).mono ?_); rintro e w' ⟨rfl, ⟨nd, rfl⟩⟩))
                    go_ret
                    exact ⟨by first | rfl | (simp [errW_none, errW_some] <;> rfl) | (simp only [← hji20]; first | rfl | (simp [errW_none, errW_some] <;> rfl)) | (simp [*, errW_none, errW_some] <;> rfl), by repeat (first | (with_reducible first | exact HB.out | apply below_alloc | apply pw_below_drewN | apply below_drew1) | exact HB.out)⟩
                  · rw [if_neg c21] at H
                    have c21b0 : (t120 == (ji20)) = false := beq_eq_false_iff_ne.mpr c21
                    have c21b1 : (t120 != (ji20)) = true := bne_iff_ne.mpr c21
                    obtain rfl := Option.some.inj H
                    go_wp2
                    go_ret
                    exact ⟨by first | rfl | (simp [errW_none, errW_some] <;> rfl) | (simp only [← hji20]; first | rfl | (simp [errW_none, errW_some] <;> rfl)) | (simp [*, errW_none, errW_some] <;> rfl), by repeat (first | (with_reducible first | exact HB.out | apply below_alloc | apply pw_below_drewN | apply below_drew1) | exact HB.out)⟩
                · rw [if_neg c19] at H
                  have c19b0 : (t122 == 0) = false := beq_eq_false_iff_ne.mpr c19
                  have c19b1 : (t122 != 0) = true := bne_iff_ne.mpr c19
                  obtain rfl := Option.some.inj H
                  go_wp2
                  go_ret
                  exact ⟨by first | rfl | (simp [errW_none, errW_some] <;> rfl) | (simp [*, errW_none, errW_some] <;> rfl), by repeat (first | (with_reducible first | exact HB.out | apply below_alloc | apply pw_below_drewN | apply below_drew1) | exact HB.out)⟩
              · rw [if_neg c18] at H
                have c18b0 : (a1 == 0) = false := beq_eq_false_iff_ne.mpr c18
                have c18b1 : (a1 != 0) = true := bne_iff_ne.mpr c18
                by_cases c23 : t120 > 0
                · rw [if_pos c23] at H
                  have c23b0 : decide (0 < t120) = true := decide_eq_true c23
                  clear c23
                  by_cases c24 : t120 = 0
                  · rw [if_pos c24] at H
                    exact absurd H (by simp)
                  · rw [if_neg c24] at H
                    have c24b0 : (t120 == 0) = false := beq_eq_false_iff_ne.mpr c24
                    have c24b1 : (t120 != 0) = true := bne_iff_ne.mpr c24
                    by_cases c25 : (Int.tmod a0 t120) = 0
                    · rw [if_pos c25] at H
                      have c25b0 : ((Int.tmod a0 t120) == 0) = true := beq_iff_eq.mpr c25
                      have c25b1 : ((Int.tmod a0 t120) != 0) = false := bne_eq_false_iff_eq.mpr c25
                      clear c25
                      by_cases c26 : (Int.tmod a1 t120) = 0
                      · rw [if_pos c26] at H
                        have c26b0 : ((Int.tmod a1 t120) == 0) = true := beq_iff_eq.mpr c26
                        have c26b1 : ((Int.tmod a1 t120) != 0) = false := bne_eq_false_iff_eq.mpr c26
                        clear c26
                        by_cases c27 : t121 ≥ 0
                        · rw [if_pos c27] at H
                          have c27b0 : decide (0 ≤ t121) = true := decide_eq_true c27
                          clear c27
                          obtain ⟨ji28, hji28⟩ : ∃ j_ : Int, (mx a1 (wrap64 (-a1))) = j_ := ⟨_, rfl⟩
                          replace H : (if t121 < (wrap64 (Int.tdiv (ji28) t120)) then ((headlandlaw01_awake.f kj13).bind fun t128 => (some t128)) else (some false)) = some r := by first | (rw [hji28] at H; exact H) | (simp only [hji28] at H ⊢; exact H)
                          have hji28_ : (if a1 < (wrap64 (-a1)) then (wrap64 (-a1)) else a1) = ji28 := hji28
                          by_cases c29 : t121 < (wrap64 (Int.tdiv (ji28) t120))
                          · rw [if_pos c29] at H
                            have c29b0 : decide (t121 < (wrap64 (Int.tdiv (ji28) t120))) = true := decide_eq_true c29
                            clear c29
                            replace H := Option.bind_eq_some_iff.mp H
                            obtain ⟨t128, A300, H⟩ := H
                            replace H : (some t128) = some r := H
                            have A30 := Aside0.mk A300
                            clear A300
                            obtain rfl := Option.some.inj H
                            go_wp2_with (first | (go_at_call 18; (with_reducible refine (headlandlaw01_awake.calls kj13  t128 _ A30.out).mono ?_); rintro e w' ⟨rfl, ⟨nd, rfl⟩⟩))
                            go_ret
                            exact ⟨by first | rfl | (simp [errW_none, errW_some] <;> rfl) | (simp only [← hji28]; first | rfl | (simp [errW_none, errW_some] <;> rfl)) | (simp [*, errW_none, errW_some] <;> rfl), by repeat (first | (with_reducible first | exact HB.out | apply below_alloc | apply pw_below_drewN | apply below_drew1) | exact HB.out)⟩
                          · rw [if_neg c29] at H
                            have c29b0 : decide (t121 < (wrap64 (Int.tdiv (ji28) t120))) = false := decide_eq_false c29
                            clear c29
                            obtain rfl := Option.some.inj H
                            go_wp2
                            go_ret
                            exact ⟨by first | rfl | (simp [errW_none, errW_some] <;> rfl) | (simp only [← hji28]; first | rfl | (simp [errW_none, errW_some] <;> rfl)) | (simp [*, errW_none, errW_some] <;> rfl), by repeat (first | (with_reducible first | exact HB.out | apply below_alloc | apply pw_below_drewN | apply below_drew1) | exact HB.out)⟩
                        · rw [if_neg c27] at H
                          have c27b0 : decide (0 ≤ t121) = false := decide_eq_false c27
                          clear c27
                          obtain rfl := Option.some.inj H
                          go_wp2
                          go_ret
                          exact ⟨by first | rfl | (simp [errW_none, errW_some] <;> rfl) | (simp [*, errW_none, errW_some] <;> rfl), by repeat (first | (with_reducible first | exact HB.out | apply below_alloc | apply pw_below_drewN | apply below_drew1) | exact HB.out)⟩
                      · rw [if_neg c26] at H
                        have c26b0 : ((Int.tmod a1 t120) == 0) = false := beq_eq_false_iff_ne.mpr c26
                        have c26b1 : ((Int.tmod a1 t120) != 0) = true := bne_iff_ne.mpr c26
                        obtain rfl := Option.some.inj H
                        go_wp2
                        go_ret
                        exact ⟨by first | rfl | (simp [errW_none, errW_some] <;> rfl) | (simp [*, errW_none, errW_some] <;> rfl), by repeat (first | (with_reducible first | exact HB.out | apply below_alloc | apply pw_below_drewN | apply below_drew1) | exact HB.out)⟩
                    · rw [if_neg c25] at H
                      have c25b0 : ((Int.tmod a0 t120) == 0) = false := beq_eq_false_iff_ne.mpr c25
                      have c25b1 : ((Int.tmod a0 t120) != 0) = true := bne_iff_ne.mpr c25
                      obtain rfl := Option.some.inj H
                      go_wp2
                      go_ret
                      exact ⟨by first | rfl | (simp [errW_none, errW_some] <;> rfl) | (simp [*, errW_none, errW_some] <;> rfl), by repeat (first | (with_reducible first | exact HB.out | apply below_alloc | apply pw_below_drewN | apply below_drew1) | exact HB.out)⟩
                · rw [if_neg c23] at H
                  have c23b0 : decide (0 < t120) = false := decide_eq_false c23
                  clear c23
                  obtain rfl := Option.some.inj H
                  go_wp2
                  go_ret
                  exact ⟨by first | rfl | (simp [errW_none, errW_some] <;> rfl) | (simp [*, errW_none, errW_some] <;> rfl), by repeat (first | (with_reducible first | exact HB.out | apply below_alloc | apply pw_below_drewN | apply below_drew1) | exact HB.out)⟩

/-- THE ONE PURE STATEMENT of headlandlaw01_NumSplit: yours. -/
def headlandlaw01_NumSplit.Pure : Prop := ∀ (a0 : Int) (a1 : Int), (Lit.int .i64 a0).wf = true → (Lit.int .i64 a1).wf = true → ∃ k, headlandlaw01_NumSplit.f k a0 a1 = some true
theorem headlandlaw01_NumSplit.walk (P : headlandlaw01_NumSplit.Pure) (a0 : Int) (a1 : Int) (w : World) (w0 : (Lit.int .i64 a0).wf = true) (w1 : (Lit.int .i64 a1).wf = true) :
    Calls Try.prog 8 #[.int .i64 a0, .int .i64 a1] w fun e w' => e = .returned (.bool true) ∧ Below w.heap.size w w' := by
  obtain ⟨k, h⟩ := P a0 a1 w0 w1
  refine (headlandlaw01_NumSplit.calls k a0 a1 true w h).mono ?_
  rintro e w' ⟨rfl, hd⟩
  exact ⟨rfl, hd⟩

end Go.Proofs.Ytimjibbjbfmkoaa.PNumSplit
