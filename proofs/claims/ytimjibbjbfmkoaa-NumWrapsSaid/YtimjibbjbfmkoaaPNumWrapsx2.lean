-- PRINTED BY print.sh 35421559b90ae4d0a3588c463048766b98c2df88dd9212a6774a882060cdf62d: not written by this session
import Derived.Test.YtimjibbjbfmkoaaPNumWrapsx0
import Derived.Test.YtimjibbjbfmkoaaPNumWrapsx1
namespace Go.Proofs.Ytimjibbjbfmkoaa.PNumWraps
open Go.RowKit Go.Proofs.YtimjibbjbfmkoaaW.PrintWords Go.Proofs.YtimjibbjbfmkoaaW.PrintLast Go.Proofs.YtimjibbjbfmkoaaW.PrintMore
attribute [local go_sem] max2_int min2_int max_two min_two max_three min_three max_four min_four   -- for this text's walks alone
set_option linter.unusedVariables false
set_option linter.unusedSimpArgs false

/-! ### headlandlaw01_NumWraps: function 7 -/
def headlandlaw01_NumWraps.j0 : Nat → Int → Int → Int → Int → Bool → Option (Bool)
  | 0, _, _, _, _, _ => none
  | k + 1, x0, x1, x5, x6, x33 => if x33 = true then (some false) else ((num_Wrap.f (Int.tmod x0 2147483648)).bind fun t123 => ((num_Wrap.f (Int.tmod x1 2147483648)).bind fun t124 => ((num_Wrap.f (wrap64 (x5 + x6))).bind fun t125 => ((num_Wrap.f (wrap64 (x0 + x1))).bind fun t126 => (if t125 = t126 then ((num_Wrap.f (wrap64 (x5 - x6))).bind fun t127 => ((num_Wrap.f (wrap64 (x0 - x1))).bind fun t128 => (if t127 = t128 then ((num_Wrap.f (wrap64 (t123 * t124))).bind fun t129 => ((num_Wrap.f (wrap64 ((Int.tmod x0 2147483648) * (Int.tmod x1 2147483648)))).bind fun t130 => (if t129 = t130 then ((headlandlaw01_awake.f k).bind fun t131 => (some t131)) else (some false)))) else (some false)))) else (some false))))))
def headlandlaw01_NumWraps.f (k : Nat) (a0 : Int) (a1 : Int) : Option (Bool) := (num_Wrap.f a0).bind fun t120 => ((num_Wrap.f a1).bind fun t121 => (if t120 < (-2147483648) then (headlandlaw01_NumWraps.j0 k a0 a1 t120 t121 true) else (if t120 ≥ 2147483648 then (headlandlaw01_NumWraps.j0 k a0 a1 t120 t121 true) else (if (Int.tmod (wrap64 (a0 - t120)) 4294967296) = 0 then ((num_Wrap.f t120).bind fun t122 => (headlandlaw01_NumWraps.j0 k a0 a1 t120 t121 (t122 != t120))) else (headlandlaw01_NumWraps.j0 k a0 a1 t120 t121 true)))))
theorem headlandlaw01_NumWraps.mono_l : ∀ k, (∀ y0 y1 y2 y3 y4, LeO (headlandlaw01_NumWraps.j0 k y0 y1 y2 y3 y4) (headlandlaw01_NumWraps.j0 (k + 1) y0 y1 y2 y3 y4))
  | 0 => fun _ _ _ _ _ r h => by simp [headlandlaw01_NumWraps.j0] at h
  | k + 1 => by
    have ih0 := headlandlaw01_NumWraps.mono_l k
    · intro y0 y1 y2 y3 y4
      unfold headlandlaw01_NumWraps.j0
      repeat' first
      | (with_reducible exact ih0 _ _ _ _ _)
      | (with_reducible exact headlandlaw01_awake.mono _)
      | (with_reducible exact LeO.refl _)
      | (with_reducible exact LeO.none _)
      | (with_reducible refine LeO.ite ?_ ?_)
      | (with_reducible refine LeO.bind ?_ (fun _ => ?_))
      | exact ih0 _ _ _ _ _
      | exact headlandlaw01_awake.mono _
      | exact LeO.none _
      | refine LeO.ite ?_ ?_
      | refine LeO.bind ?_ (fun _ => ?_)
theorem headlandlaw01_NumWraps.mono : ∀ a0 a1 k, LeO (headlandlaw01_NumWraps.f k a0 a1) (headlandlaw01_NumWraps.f (k + 1) a0 a1) := by
  intro a0 a1 k
  have ih0 := headlandlaw01_NumWraps.mono_l k
  unfold headlandlaw01_NumWraps.f
  repeat' first
      | (with_reducible exact ih0 _ _ _ _ _)
      | (with_reducible exact headlandlaw01_awake.mono _)
      | (with_reducible exact LeO.refl _)
      | (with_reducible exact LeO.none _)
      | (with_reducible refine LeO.ite ?_ ?_)
      | (with_reducible refine LeO.bind ?_ (fun _ => ?_))
      | exact ih0 _ _ _ _ _
      | exact headlandlaw01_awake.mono _
      | exact LeO.none _
      | refine LeO.ite ?_ ?_
      | refine LeO.bind ?_ (fun _ => ?_)
set_option maxHeartbeats 8000000 in
set_option maxRecDepth 100000 in
theorem headlandlaw01_NumWraps.calls (k : Nat) (a0 : Int) (a1 : Int) (r : Bool) (w : World) (h : headlandlaw01_NumWraps.f k a0 a1 = some r) :
    Calls Try.prog 7 #[.int .i64 a0, .int .i64 a1] w fun e w' => e = .returned (.bool r) ∧ Drawn0 w w' := by
  have H : ((num_Wrap.f a0).bind fun t120 => ((num_Wrap.f a1).bind fun t121 => (if t120 < (-2147483648) then (headlandlaw01_NumWraps.j0 k a0 a1 t120 t121 true) else (if t120 ≥ 2147483648 then (headlandlaw01_NumWraps.j0 k a0 a1 t120 t121 true) else (if (Int.tmod (wrap64 (a0 - t120)) 4294967296) = 0 then ((num_Wrap.f t120).bind fun t122 => (headlandlaw01_NumWraps.j0 k a0 a1 t120 t121 (t122 != t120))) else (headlandlaw01_NumWraps.j0 k a0 a1 t120 t121 true)))))) = some r := h
  clear h
  replace H := Option.bind_eq_some_iff.mp H
  obtain ⟨t120, A30, H⟩ := H
  replace H : ((num_Wrap.f a1).bind fun t121 => (if t120 < (-2147483648) then (headlandlaw01_NumWraps.j0 k a0 a1 t120 t121 true) else (if t120 ≥ 2147483648 then (headlandlaw01_NumWraps.j0 k a0 a1 t120 t121 true) else (if (Int.tmod (wrap64 (a0 - t120)) 4294967296) = 0 then ((num_Wrap.f t120).bind fun t122 => (headlandlaw01_NumWraps.j0 k a0 a1 t120 t121 (t122 != t120))) else (headlandlaw01_NumWraps.j0 k a0 a1 t120 t121 true))))) = some r := H
  have A3 := Aside0.mk A30
  clear A30
  replace H := Option.bind_eq_some_iff.mp H
  obtain ⟨t121, A40, H⟩ := H
  replace H : (if t120 < (-2147483648) then (headlandlaw01_NumWraps.j0 k a0 a1 t120 t121 true) else (if t120 ≥ 2147483648 then (headlandlaw01_NumWraps.j0 k a0 a1 t120 t121 true) else (if (Int.tmod (wrap64 (a0 - t120)) 4294967296) = 0 then ((num_Wrap.f t120).bind fun t122 => (headlandlaw01_NumWraps.j0 k a0 a1 t120 t121 (t122 != t120))) else (headlandlaw01_NumWraps.j0 k a0 a1 t120 t121 true)))) = some r := H
  have A4 := Aside0.mk A40
  clear A40
  have HC5 := Aside0.mk H
  clear H
  go_enter Try.func7, Try.ntmps7
  go_upto_region 2 with (first | ((with_reducible refine gate_callee (f := 21) rfl ?_); refine goesL_ (some 12) rfl rfl Try.func21 (by kernel_rfl) rfl #[.int .i64 a0] rfl (by (try simp only [List.map_toArray, List.map_cons, List.map_nil]); first | done | rfl | (simp only [List.length_drop, List.length_take]; rfl)) ?_; (with_reducible refine (num_Wrap.calls a0 t120 _ A3.out).mono ?_); rintro e w' ⟨rfl, ⟨nd, rfl⟩⟩; refine ⟨_, rfl, ?_⟩) | ((with_reducible refine gate_callee (f := 21) rfl ?_); refine goesL_ (some 14) rfl rfl Try.func21 (by kernel_rfl) rfl #[.int .i64 a1] rfl (by (try simp only [List.map_toArray, List.map_cons, List.map_nil]); first | done | rfl | (simp only [List.length_drop, List.length_take]; rfl)) ?_; (with_reducible refine (num_Wrap.calls a1 t121 _ A4.out).mono ?_); rintro e w' ⟨rfl, ⟨nd, rfl⟩⟩; refine ⟨_, rfl, ?_⟩))
  (try simp only [Act.put, List.setIfInBounds_toArray, List.set_cons_zero, List.set_cons_succ])
  go_cut [33] (fun v33 wc => ∃ (kq : Nat) (x33_4 : Bool), v33 = .bool x33_4 ∧ Aside0 (headlandlaw01_NumWraps.j0 kq a0 a1 t120 t121 x33_4 = some r) ∧ Aside0 (kq ≤ k) ∧ Drawn0 w wc)
  case first =>
    have H := HC5.out
    clear HC5
    by_cases c6 : t120 < (-2147483648)
    · rw [if_pos c6] at H
      have c6b0 : decide (t120 < (-2147483648)) = true := decide_eq_true c6
      clear c6
      (first | rw [c6b0] | (simp only [i64_w, i32_w]; rw [c6b0]) | skip)
      have H' := Aside0.mk H
      clear H
      go_wp2
      go_meet
      case rel => exact ⟨_, (true), (by first | rfl | (simp; done) | (simp [*]; done)), H', ⟨by first | omega | exact Nat.le_refl _⟩, by repeat (first | exact Drawn0.refl _ | apply Drawn0.step)⟩
    · rw [if_neg c6] at H
      have c6b0 : decide (t120 < (-2147483648)) = false := decide_eq_false c6
      clear c6
      (first | rw [c6b0] | (simp only [i64_w, i32_w]; rw [c6b0]) | skip)
      by_cases c7 : t120 ≥ 2147483648
      · rw [if_pos c7] at H
        have c7b0 : decide (2147483648 ≤ t120) = true := decide_eq_true c7
        clear c7
        have H' := Aside0.mk H
        clear H
        go_wp2
        go_meet
        case rel => exact ⟨_, (true), (by first | rfl | (simp; done) | (simp [*]; done)), H', ⟨by first | omega | exact Nat.le_refl _⟩, by repeat (first | exact Drawn0.refl _ | apply Drawn0.step)⟩
      · rw [if_neg c7] at H
        have c7b0 : decide (2147483648 ≤ t120) = false := decide_eq_false c7
        clear c7
        by_cases c8 : (Int.tmod (wrap64 (a0 - t120)) 4294967296) = 0
        · rw [if_pos c8] at H
          have c8b0 : ((Int.tmod (wrap64 (a0 - t120)) 4294967296) == 0) = true := beq_iff_eq.mpr c8
          have c8b1 : ((Int.tmod (wrap64 (a0 - t120)) 4294967296) != 0) = false := bne_eq_false_iff_eq.mpr c8
          clear c8
          replace H := Option.bind_eq_some_iff.mp H
          obtain ⟨t122, A90, H⟩ := H
          replace H : (headlandlaw01_NumWraps.j0 k a0 a1 t120 t121 (t122 != t120)) = some r := H
          have A9 := Aside0.mk A90
          clear A90
          have H' := Aside0.mk H
          clear H
          go_wp2_with (first | (go_at_call 21; (with_reducible refine (num_Wrap.calls t120 t122 _ A9.out).mono ?_); rintro e w' ⟨rfl, ⟨nd, rfl⟩⟩))
          go_meet
          case rel => exact ⟨_, ((t122 != t120)), (by first | rfl | (simp; done) | (simp [*]; done)), H', ⟨by first | omega | exact Nat.le_refl _⟩, by repeat (first | exact Drawn0.refl _ | apply Drawn0.step)⟩
        · rw [if_neg c8] at H
          have c8b0 : ((Int.tmod (wrap64 (a0 - t120)) 4294967296) == 0) = false := beq_eq_false_iff_ne.mpr c8
          have c8b1 : ((Int.tmod (wrap64 (a0 - t120)) 4294967296) != 0) = true := bne_iff_ne.mpr c8
          have H' := Aside0.mk H
          clear H
          go_wp2
          go_meet
          case rel => exact ⟨_, (true), (by first | rfl | (simp; done) | (simp [*]; done)), H', ⟨by first | omega | exact Nat.le_refl _⟩, by repeat (first | exact Drawn0.refl _ | apply Drawn0.step)⟩
  case rest =>
    clear HC5
    try clear c2
    try clear p2
    try clear c6
    try clear c6b0
    try clear p6
    try clear c7
    try clear c7b0
    try clear c8
    try clear c8b0
    try clear c8b1
    obtain ⟨kq, x33_4, rfl, HA, HJ4, ⟨mc4, rfl⟩⟩ := hcut
    cases kq with
    | zero => exact absurd HA.out (by simp [headlandlaw01_NumWraps.j0])
    | succ kj4 =>
      have H := HA.out
      clear HA
      simp only [headlandlaw01_NumWraps.j0] at H
      by_cases c10 : x33_4 = true
      · subst c10
        have H1 : (some false) = some r := by rw [if_pos rfl] at H; exact H
        clear H
        have H := H1
        clear H1
        obtain rfl := Option.some.inj H
        go_wp2
        go_ret
        exact ⟨by first | rfl | (simp; done) | (simp [*]; done), by repeat (first | exact Drawn0.refl _ | apply Drawn0.step)⟩
      · replace c10 := Bool.eq_false_iff.mpr c10
        subst c10
        have H1 : ((num_Wrap.f (Int.tmod a0 2147483648)).bind fun t123 => ((num_Wrap.f (Int.tmod a1 2147483648)).bind fun t124 => ((num_Wrap.f (wrap64 (t120 + t121))).bind fun t125 => ((num_Wrap.f (wrap64 (a0 + a1))).bind fun t126 => (if t125 = t126 then ((num_Wrap.f (wrap64 (t120 - t121))).bind fun t127 => ((num_Wrap.f (wrap64 (a0 - a1))).bind fun t128 => (if t127 = t128 then ((num_Wrap.f (wrap64 (t123 * t124))).bind fun t129 => ((num_Wrap.f (wrap64 ((Int.tmod a0 2147483648) * (Int.tmod a1 2147483648)))).bind fun t130 => (if t129 = t130 then ((headlandlaw01_awake.f kj4).bind fun t131 => (some t131)) else (some false)))) else (some false)))) else (some false)))))) = some r := by rw [if_neg (show ¬ (false = true) by decide)] at H; exact H
        clear H
        have H := H1
        clear H1
        replace H := Option.bind_eq_some_iff.mp H
        obtain ⟨t123, A110, H⟩ := H
        replace H : ((num_Wrap.f (Int.tmod a1 2147483648)).bind fun t124 => ((num_Wrap.f (wrap64 (t120 + t121))).bind fun t125 => ((num_Wrap.f (wrap64 (a0 + a1))).bind fun t126 => (if t125 = t126 then ((num_Wrap.f (wrap64 (t120 - t121))).bind fun t127 => ((num_Wrap.f (wrap64 (a0 - a1))).bind fun t128 => (if t127 = t128 then ((num_Wrap.f (wrap64 (t123 * t124))).bind fun t129 => ((num_Wrap.f (wrap64 ((Int.tmod a0 2147483648) * (Int.tmod a1 2147483648)))).bind fun t130 => (if t129 = t130 then ((headlandlaw01_awake.f kj4).bind fun t131 => (some t131)) else (some false)))) else (some false)))) else (some false))))) = some r := H
        have A11 := Aside0.mk A110
        clear A110
        replace H := Option.bind_eq_some_iff.mp H
        obtain ⟨t124, A120, H⟩ := H
        replace H : ((num_Wrap.f (wrap64 (t120 + t121))).bind fun t125 => ((num_Wrap.f (wrap64 (a0 + a1))).bind fun t126 => (if t125 = t126 then ((num_Wrap.f (wrap64 (t120 - t121))).bind fun t127 => ((num_Wrap.f (wrap64 (a0 - a1))).bind fun t128 => (if t127 = t128 then ((num_Wrap.f (wrap64 (t123 * t124))).bind fun t129 => ((num_Wrap.f (wrap64 ((Int.tmod a0 2147483648) * (Int.tmod a1 2147483648)))).bind fun t130 => (if t129 = t130 then ((headlandlaw01_awake.f kj4).bind fun t131 => (some t131)) else (some false)))) else (some false)))) else (some false)))) = some r := H
        have A12 := Aside0.mk A120
        clear A120
        replace H := Option.bind_eq_some_iff.mp H
        obtain ⟨t125, A130, H⟩ := H
        replace H : ((num_Wrap.f (wrap64 (a0 + a1))).bind fun t126 => (if t125 = t126 then ((num_Wrap.f (wrap64 (t120 - t121))).bind fun t127 => ((num_Wrap.f (wrap64 (a0 - a1))).bind fun t128 => (if t127 = t128 then ((num_Wrap.f (wrap64 (t123 * t124))).bind fun t129 => ((num_Wrap.f (wrap64 ((Int.tmod a0 2147483648) * (Int.tmod a1 2147483648)))).bind fun t130 => (if t129 = t130 then ((headlandlaw01_awake.f kj4).bind fun t131 => (some t131)) else (some false)))) else (some false)))) else (some false))) = some r := H
        have A13 := Aside0.mk A130
        clear A130
        replace H := Option.bind_eq_some_iff.mp H
        obtain ⟨t126, A140, H⟩ := H
        replace H : (if t125 = t126 then ((num_Wrap.f (wrap64 (t120 - t121))).bind fun t127 => ((num_Wrap.f (wrap64 (a0 - a1))).bind fun t128 => (if t127 = t128 then ((num_Wrap.f (wrap64 (t123 * t124))).bind fun t129 => ((num_Wrap.f (wrap64 ((Int.tmod a0 2147483648) * (Int.tmod a1 2147483648)))).bind fun t130 => (if t129 = t130 then ((headlandlaw01_awake.f kj4).bind fun t131 => (some t131)) else (some false)))) else (some false)))) else (some false)) = some r := H
        have A14 := Aside0.mk A140
        clear A140
        by_cases c15 : t125 = t126
        · rw [if_pos c15] at H
          have c15b0 : (t125 == t126) = true := beq_iff_eq.mpr c15
          have c15b1 : (t125 != t126) = false := bne_eq_false_iff_eq.mpr c15
          clear c15
          replace H := Option.bind_eq_some_iff.mp H
          obtain ⟨t127, A160, H⟩ := H
          replace H : ((num_Wrap.f (wrap64 (a0 - a1))).bind fun t128 => (if t127 = t128 then ((num_Wrap.f (wrap64 (t123 * t124))).bind fun t129 => ((num_Wrap.f (wrap64 ((Int.tmod a0 2147483648) * (Int.tmod a1 2147483648)))).bind fun t130 => (if t129 = t130 then ((headlandlaw01_awake.f kj4).bind fun t131 => (some t131)) else (some false)))) else (some false))) = some r := H
          have A16 := Aside0.mk A160
          clear A160
          replace H := Option.bind_eq_some_iff.mp H
          obtain ⟨t128, A170, H⟩ := H
          replace H : (if t127 = t128 then ((num_Wrap.f (wrap64 (t123 * t124))).bind fun t129 => ((num_Wrap.f (wrap64 ((Int.tmod a0 2147483648) * (Int.tmod a1 2147483648)))).bind fun t130 => (if t129 = t130 then ((headlandlaw01_awake.f kj4).bind fun t131 => (some t131)) else (some false)))) else (some false)) = some r := H
          have A17 := Aside0.mk A170
          clear A170
          by_cases c18 : t127 = t128
          · rw [if_pos c18] at H
            have c18b0 : (t127 == t128) = true := beq_iff_eq.mpr c18
            have c18b1 : (t127 != t128) = false := bne_eq_false_iff_eq.mpr c18
            clear c18
            replace H := Option.bind_eq_some_iff.mp H
            obtain ⟨t129, A190, H⟩ := H
            replace H : ((num_Wrap.f (wrap64 ((Int.tmod a0 2147483648) * (Int.tmod a1 2147483648)))).bind fun t130 => (if t129 = t130 then ((headlandlaw01_awake.f kj4).bind fun t131 => (some t131)) else (some false))) = some r := H
            have A19 := Aside0.mk A190
            clear A190
            replace H := Option.bind_eq_some_iff.mp H
            obtain ⟨t130, A200, H⟩ := H
            replace H : (if t129 = t130 then ((headlandlaw01_awake.f kj4).bind fun t131 => (some t131)) else (some false)) = some r := H
            have A20 := Aside0.mk A200
            clear A200
            by_cases c21 : t129 = t130
            · rw [if_pos c21] at H
              have c21b0 : (t129 == t130) = true := beq_iff_eq.mpr c21
              have c21b1 : (t129 != t130) = false := bne_eq_false_iff_eq.mpr c21
              clear c21
              replace H := Option.bind_eq_some_iff.mp H
              obtain ⟨t131, A220, H⟩ := H
              replace H : (some t131) = some r := H
              have A22 := Aside0.mk A220
              clear A220
              obtain rfl := Option.some.inj H
              go_wp2_with (first | ((with_reducible refine gate_callee (f := 21) rfl ?_); refine goesL_ (some 39) rfl rfl Try.func21 (by kernel_rfl) rfl #[.int .i64 (Int.tmod a0 2147483648)] rfl (by (try simp only [List.map_toArray, List.map_cons, List.map_nil]); first | done | rfl | (simp only [List.length_drop, List.length_take]; rfl)) ?_; (with_reducible refine (num_Wrap.calls (Int.tmod a0 2147483648) t123 _ A11.out).mono ?_); rintro e w' ⟨rfl, ⟨nd, rfl⟩⟩; refine ⟨_, rfl, ?_⟩) | ((with_reducible refine gate_callee (f := 21) rfl ?_); refine goesL_ (some 41) rfl rfl Try.func21 (by kernel_rfl) rfl #[.int .i64 (Int.tmod a1 2147483648)] rfl (by (try simp only [List.map_toArray, List.map_cons, List.map_nil]); first | done | rfl | (simp only [List.length_drop, List.length_take]; rfl)) ?_; (with_reducible refine (num_Wrap.calls (Int.tmod a1 2147483648) t124 _ A12.out).mono ?_); rintro e w' ⟨rfl, ⟨nd, rfl⟩⟩; refine ⟨_, rfl, ?_⟩) | ((with_reducible refine gate_callee (f := 21) rfl ?_); refine goesL_ (some 45) rfl rfl Try.func21 (by kernel_rfl) rfl #[.int .i64 (wrap64 (t120 + t121))] rfl (by (try simp only [List.map_toArray, List.map_cons, List.map_nil]); first | done | rfl | (simp only [List.length_drop, List.length_take]; rfl)) ?_; (with_reducible refine (num_Wrap.calls (wrap64 (t120 + t121)) t125 _ A13.out).mono ?_); rintro e w' ⟨rfl, ⟨nd, rfl⟩⟩; refine ⟨_, rfl, ?_⟩) | ((with_reducible refine gate_callee (f := 21) rfl ?_); refine goesL_ (some 49) rfl rfl Try.func21 (by kernel_rfl) rfl #[.int .i64 (wrap64 (a0 + a1))] rfl (by (try simp only [List.map_toArray, List.map_cons, List.map_nil]); first | done | rfl | (simp only [List.length_drop, List.length_take]; rfl)) ?_; (with_reducible refine (num_Wrap.calls (wrap64 (a0 + a1)) t126 _ A14.out).mono ?_); rintro e w' ⟨rfl, ⟨nd, rfl⟩⟩; refine ⟨_, rfl, ?_⟩) | (go_at_call 21; (with_reducible refine (num_Wrap.calls (wrap64 (t120 - t121)) t127 _ A16.out).mono ?_); rintro e w' ⟨rfl, ⟨nd, rfl⟩⟩) | (go_at_call 21; (with_reducible refine (num_Wrap.calls (wrap64 (a0 - a1)) t128 _ A17.out).mono ?_); rintro e w' ⟨rfl, ⟨nd, rfl⟩⟩) | (go_at_call 21; (with_reducible refine (num_Wrap.calls (wrap64 (t123 * t124)) t129 _ A19.out).mono ?_); rintro e w' ⟨rfl, ⟨nd, rfl⟩⟩) | (go_at_call 21; (with_reducible refine (num_Wrap.calls (wrap64 ((Int.tmod a0 2147483648) * (Int.tmod a1 2147483648))) t130 _ A20.out).mono ?_); rintro e w' ⟨rfl, ⟨nd, rfl⟩⟩) | (go_at_call 18; (with_reducible refine (headlandlaw01_awake.calls kj4  t131 _ A22.out).mono ?_); rintro e w' ⟨rfl, ⟨nd, rfl⟩⟩))
              go_ret
              exact ⟨by first | rfl | (simp; done) | (simp [*]; done), by repeat (first | exact Drawn0.refl _ | apply Drawn0.step)⟩
            · rw [if_neg c21] at H
              have c21b0 : (t129 == t130) = false := beq_eq_false_iff_ne.mpr c21
              have c21b1 : (t129 != t130) = true := bne_iff_ne.mpr c21
              obtain rfl := Option.some.inj H
              go_wp2_with (first | ((with_reducible refine gate_callee (f := 21) rfl ?_); refine goesL_ (some 39) rfl rfl Try.func21 (by kernel_rfl) rfl #[.int .i64 (Int.tmod a0 2147483648)] rfl (by (try simp only [List.map_toArray, List.map_cons, List.map_nil]); first | done | rfl | (simp only [List.length_drop, List.length_take]; rfl)) ?_; (with_reducible refine (num_Wrap.calls (Int.tmod a0 2147483648) t123 _ A11.out).mono ?_); rintro e w' ⟨rfl, ⟨nd, rfl⟩⟩; refine ⟨_, rfl, ?_⟩) | ((with_reducible refine gate_callee (f := 21) rfl ?_); refine goesL_ (some 41) rfl rfl Try.func21 (by kernel_rfl) rfl #[.int .i64 (Int.tmod a1 2147483648)] rfl (by (try simp only [List.map_toArray, List.map_cons, List.map_nil]); first | done | rfl | (simp only [List.length_drop, List.length_take]; rfl)) ?_; (with_reducible refine (num_Wrap.calls (Int.tmod a1 2147483648) t124 _ A12.out).mono ?_); rintro e w' ⟨rfl, ⟨nd, rfl⟩⟩; refine ⟨_, rfl, ?_⟩) | ((with_reducible refine gate_callee (f := 21) rfl ?_); refine goesL_ (some 45) rfl rfl Try.func21 (by kernel_rfl) rfl #[.int .i64 (wrap64 (t120 + t121))] rfl (by (try simp only [List.map_toArray, List.map_cons, List.map_nil]); first | done | rfl | (simp only [List.length_drop, List.length_take]; rfl)) ?_; (with_reducible refine (num_Wrap.calls (wrap64 (t120 + t121)) t125 _ A13.out).mono ?_); rintro e w' ⟨rfl, ⟨nd, rfl⟩⟩; refine ⟨_, rfl, ?_⟩) | ((with_reducible refine gate_callee (f := 21) rfl ?_); refine goesL_ (some 49) rfl rfl Try.func21 (by kernel_rfl) rfl #[.int .i64 (wrap64 (a0 + a1))] rfl (by (try simp only [List.map_toArray, List.map_cons, List.map_nil]); first | done | rfl | (simp only [List.length_drop, List.length_take]; rfl)) ?_; (with_reducible refine (num_Wrap.calls (wrap64 (a0 + a1)) t126 _ A14.out).mono ?_); rintro e w' ⟨rfl, ⟨nd, rfl⟩⟩; refine ⟨_, rfl, ?_⟩) | (go_at_call 21; (with_reducible refine (num_Wrap.calls (wrap64 (t120 - t121)) t127 _ A16.out).mono ?_); rintro e w' ⟨rfl, ⟨nd, rfl⟩⟩) | (go_at_call 21; (with_reducible refine (num_Wrap.calls (wrap64 (a0 - a1)) t128 _ A17.out).mono ?_); rintro e w' ⟨rfl, ⟨nd, rfl⟩⟩) | (go_at_call 21; (with_reducible refine (num_Wrap.calls (wrap64 (t123 * t124)) t129 _ A19.out).mono ?_); rintro e w' ⟨rfl, ⟨nd, rfl⟩⟩) | (go_at_call 21; (with_reducible refine (num_Wrap.calls (wrap64 ((Int.tmod a0 2147483648) * (Int.tmod a1 2147483648))) t130 _ A20.out).mono ?_); rintro e w' ⟨rfl, ⟨nd, rfl⟩⟩))
              go_ret
              exact ⟨by first | rfl | (simp; done) | (simp [*]; done), by repeat (first | exact Drawn0.refl _ | apply Drawn0.step)⟩
          · rw [if_neg c18] at H
            have c18b0 : (t127 == t128) = false := beq_eq_false_iff_ne.mpr c18
            have c18b1 : (t127 != t128) = true := bne_iff_ne.mpr c18
            obtain rfl := Option.some.inj H
            go_wp2_with (first | ((with_reducible refine gate_callee (f := 21) rfl ?_); refine goesL_ (some 39) rfl rfl Try.func21 (by kernel_rfl) rfl #[.int .i64 (Int.tmod a0 2147483648)] rfl (by (try simp only [List.map_toArray, List.map_cons, List.map_nil]); first | done | rfl | (simp only [List.length_drop, List.length_take]; rfl)) ?_; (with_reducible refine (num_Wrap.calls (Int.tmod a0 2147483648) t123 _ A11.out).mono ?_); rintro e w' ⟨rfl, ⟨nd, rfl⟩⟩; refine ⟨_, rfl, ?_⟩) | ((with_reducible refine gate_callee (f := 21) rfl ?_); refine goesL_ (some 41) rfl rfl Try.func21 (by kernel_rfl) rfl #[.int .i64 (Int.tmod a1 2147483648)] rfl (by (try simp only [List.map_toArray, List.map_cons, List.map_nil]); first | done | rfl | (simp only [List.length_drop, List.length_take]; rfl)) ?_; (with_reducible refine (num_Wrap.calls (Int.tmod a1 2147483648) t124 _ A12.out).mono ?_); rintro e w' ⟨rfl, ⟨nd, rfl⟩⟩; refine ⟨_, rfl, ?_⟩) | ((with_reducible refine gate_callee (f := 21) rfl ?_); refine goesL_ (some 45) rfl rfl Try.func21 (by kernel_rfl) rfl #[.int .i64 (wrap64 (t120 + t121))] rfl (by (try simp only [List.map_toArray, List.map_cons, List.map_nil]); first | done | rfl | (simp only [List.length_drop, List.length_take]; rfl)) ?_; (with_reducible refine (num_Wrap.calls (wrap64 (t120 + t121)) t125 _ A13.out).mono ?_); rintro e w' ⟨rfl, ⟨nd, rfl⟩⟩; refine ⟨_, rfl, ?_⟩) | ((with_reducible refine gate_callee (f := 21) rfl ?_); refine goesL_ (some 49) rfl rfl Try.func21 (by kernel_rfl) rfl #[.int .i64 (wrap64 (a0 + a1))] rfl (by (try simp only [List.map_toArray, List.map_cons, List.map_nil]); first | done | rfl | (simp only [List.length_drop, List.length_take]; rfl)) ?_; (with_reducible refine (num_Wrap.calls (wrap64 (a0 + a1)) t126 _ A14.out).mono ?_); rintro e w' ⟨rfl, ⟨nd, rfl⟩⟩; refine ⟨_, rfl, ?_⟩) | (go_at_call 21; (with_reducible refine (num_Wrap.calls (wrap64 (t120 - t121)) t127 _ A16.out).mono ?_); rintro e w' ⟨rfl, ⟨nd, rfl⟩⟩) | (go_at_call 21; (with_reducible refine (num_Wrap.calls (wrap64 (a0 - a1)) t128 _ A17.out).mono ?_); rintro e w' ⟨rfl, ⟨nd, rfl⟩⟩))
            go_ret
            exact ⟨by first | rfl | (simp; done) | (simp [*]; done), by repeat (first | exact Drawn0.refl _ | apply Drawn0.step)⟩
        · rw [if_neg c15] at H
          have c15b0 : (t125 == t126) = false := beq_eq_false_iff_ne.mpr c15
          have c15b1 : (t125 != t126) = true := bne_iff_ne.mpr c15
          obtain rfl := Option.some.inj H
          go_wp2_with (first | ((with_reducible refine gate_callee (f := 21) rfl ?_); refine goesL_ (some 39) rfl rfl Try.func21 (by kernel_rfl) rfl #[.int .i64 (Int.tmod a0 2147483648)] rfl (by (try simp only [List.map_toArray, List.map_cons, List.map_nil]); first | done | rfl | (simp only [List.length_drop, List.length_take]; rfl)) ?_; (with_reducible refine (num_Wrap.calls (Int.tmod a0 2147483648) t123 _ A11.out).mono ?_); rintro e w' ⟨rfl, ⟨nd, rfl⟩⟩; refine ⟨_, rfl, ?_⟩) | ((with_reducible refine gate_callee (f := 21) rfl ?_); refine goesL_ (some 41) rfl rfl Try.func21 (by kernel_rfl) rfl #[.int .i64 (Int.tmod a1 2147483648)] rfl (by (try simp only [List.map_toArray, List.map_cons, List.map_nil]); first | done | rfl | (simp only [List.length_drop, List.length_take]; rfl)) ?_; (with_reducible refine (num_Wrap.calls (Int.tmod a1 2147483648) t124 _ A12.out).mono ?_); rintro e w' ⟨rfl, ⟨nd, rfl⟩⟩; refine ⟨_, rfl, ?_⟩) | ((with_reducible refine gate_callee (f := 21) rfl ?_); refine goesL_ (some 45) rfl rfl Try.func21 (by kernel_rfl) rfl #[.int .i64 (wrap64 (t120 + t121))] rfl (by (try simp only [List.map_toArray, List.map_cons, List.map_nil]); first | done | rfl | (simp only [List.length_drop, List.length_take]; rfl)) ?_; (with_reducible refine (num_Wrap.calls (wrap64 (t120 + t121)) t125 _ A13.out).mono ?_); rintro e w' ⟨rfl, ⟨nd, rfl⟩⟩; refine ⟨_, rfl, ?_⟩) | ((with_reducible refine gate_callee (f := 21) rfl ?_); refine goesL_ (some 49) rfl rfl Try.func21 (by kernel_rfl) rfl #[.int .i64 (wrap64 (a0 + a1))] rfl (by (try simp only [List.map_toArray, List.map_cons, List.map_nil]); first | done | rfl | (simp only [List.length_drop, List.length_take]; rfl)) ?_; (with_reducible refine (num_Wrap.calls (wrap64 (a0 + a1)) t126 _ A14.out).mono ?_); rintro e w' ⟨rfl, ⟨nd, rfl⟩⟩; refine ⟨_, rfl, ?_⟩))
          go_ret
          exact ⟨by first | rfl | (simp; done) | (simp [*]; done), by repeat (first | exact Drawn0.refl _ | apply Drawn0.step)⟩

/-- THE ONE PURE STATEMENT of headlandlaw01_NumWraps: yours. -/
def headlandlaw01_NumWraps.Pure : Prop := ∀ (a0 : Int) (a1 : Int), (Lit.int .i64 a0).wf = true → (Lit.int .i64 a1).wf = true → ∃ k, headlandlaw01_NumWraps.f k a0 a1 = some true
theorem headlandlaw01_NumWraps.walk (P : headlandlaw01_NumWraps.Pure) (a0 : Int) (a1 : Int) (w : World) (w0 : (Lit.int .i64 a0).wf = true) (w1 : (Lit.int .i64 a1).wf = true) :
    Calls Try.prog 7 #[.int .i64 a0, .int .i64 a1] w fun e w' => e = .returned (.bool true) ∧ Below w.heap.size w w' := by
  obtain ⟨k, h⟩ := P a0 a1 w0 w1
  refine (headlandlaw01_NumWraps.calls k a0 a1 true w h).mono ?_
  rintro e w' ⟨rfl, hd⟩
  exact ⟨rfl, hd.below⟩

end Go.Proofs.Ytimjibbjbfmkoaa.PNumWraps
