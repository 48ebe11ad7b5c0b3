/- The walk of NumDivision: floor, mod and ceil fit together, for all a and b; no condition. -/
import Derived.Test.YtimjibbjbfmkoaaPNumDivisionx1
namespace Go.Proofs.Ytimjibbjbfmkoaa.Division
open Go.RowKit Go.Proofs.Ytimjibbjbfmkoaa.PNumDivision Go.Proofs.YtimjibbjbfmkoaaW.PrintWords Go.Proofs.YtimjibbjbfmkoaaW.PrintLast
set_option linter.unusedVariables false
set_option linter.unusedSimpArgs false

theorem wfb {n : Int} (h : (Lit.int .i64 n).wf = true) : -9223372036854775808 ≤ n ∧ n ≤ 9223372036854775807 := by
  simp only [Lit.wf, IntKind.min, IntKind.max, IntKind.signed, IntKind.bits, Bool.and_eq_true, decide_eq_true_eq, if_true] at h
  omega
theorem w64 {n : Int} (h0 : -9223372036854775808 ≤ n) (h1 : n ≤ 9223372036854775807) : wrap64 n = n := by unfold wrap64; omega
theorem wu64 (n : Int) : IntKind.u64.wrap n = n % 18446744073709551616 := by simp [IntKind.wrap, IntKind.bits, IntKind.signed]
theorem awake_ok : headlandlaw01_awake.f 12 = some true := by decide +kernel
theorem tdivmod (a b : Int) (hb : 1 ≤ b) : (Int.tmod a b < 0 → Int.tdiv a b = a / b + 1 ∧ Int.tmod a b = a % b - b ∧ a % b ≠ 0) ∧ (Int.tmod a b > 0 → Int.tdiv a b = a / b ∧ Int.tmod a b = a % b ∧ a % b ≠ 0)
    ∧ (Int.tmod a b = 0 → Int.tdiv a b = a / b ∧ a % b = 0) := by
  have h1 := Int.tdiv_eq_ediv (a := a) (b := b)
  have h2 := Int.tmod_eq_emod (a := a) (b := b)
  have h3 := Int.emod_nonneg a (show b ≠ 0 by omega)
  have h4 := Int.emod_lt_of_pos a (show 0 < b by omega)
  have h5 : b.sign = 1 := Int.sign_eq_one_of_pos (by omega)
  have h6 : b ∣ a ↔ a % b = 0 := Int.dvd_iff_emod_eq_zero
  by_cases c : 0 ≤ a ∨ b ∣ a
  · rw [if_pos c] at h1 h2
    refine ⟨fun h => by omega, fun h => ⟨by omega, by omega, by omega⟩, fun h => ⟨by omega, by omega⟩⟩
  · rw [if_neg c] at h1 h2
    rw [h5] at h1
    have h7 : ¬ a % b = 0 := fun e => c (.inr (h6.2 e))
    refine ⟨fun h => ⟨by omega, by omega, by omega⟩, fun h => by omega, fun h => by omega⟩
theorem ediv_bd (a b : Int) (hb : 1 ≤ b) (h0 : -9223372036854775808 ≤ a) (h1 : a ≤ 9223372036854775807) :
    -9223372036854775808 ≤ a / b ∧ a / b ≤ 9223372036854775807 ∧ (a % b ≠ 0 → a / b < 9223372036854775807) ∧ a / b * b + a % b = a := by
  have e := Int.mul_ediv_add_emod a b
  have e3 := Int.emod_nonneg a (show b ≠ 0 by omega)
  have e4 := Int.emod_lt_of_pos a (show 0 < b by omega)
  rw [Int.mul_comm] at e
  by_cases b1 : b = 1
  · subst b1; omega
  · have h2 : a / b ≤ 9223372036854775806 := by
      have : a / b < 9223372036854775807 := Int.ediv_lt_of_lt_mul (by omega) (by omega)
      omega
    have h3 : -9223372036854775808 ≤ a / b := Int.le_ediv_of_mul_le (by omega) (by omega)
    omega
theorem floor_eq (a b : Int) (hb : 1 ≤ b) (h0 : -9223372036854775808 ≤ a) (h1 : a ≤ 9223372036854775807) : num_Floor.f a b = some (a / b, 0) := by
  obtain ⟨t1, t2, t3⟩ := tdivmod a b hb
  have d := ediv_bd a b hb h0 h1
  unfold num_Floor.f
  rw [if_neg (by omega), if_neg (by omega)]
  by_cases c : Int.tmod a b < 0
  · rw [if_pos c, (t1 c).1]
    have := (t1 c).2.2
    rw [w64 (n := a / b + 1) (by omega) (by omega), w64 (by omega) (by omega), show a / b + 1 - 1 = a / b by omega]
  · rw [if_neg c]
    have : Int.tdiv a b = a / b := by
      by_cases c2 : Int.tmod a b = 0
      · exact (t3 c2).1
      · exact (t2 (by omega)).1
    rw [this, w64 (by omega) (by omega)]
theorem ceil_eq (a b : Int) (hb : 1 ≤ b) (h0 : -9223372036854775808 ≤ a) (h1 : a ≤ 9223372036854775807) : num_Ceil.f a b = some (if a % b = 0 then a / b else a / b + 1, 0) := by
  obtain ⟨t1, t2, t3⟩ := tdivmod a b hb
  have d := ediv_bd a b hb h0 h1
  unfold num_Ceil.f
  rw [if_neg (by omega), if_neg (by omega)]
  by_cases c : Int.tmod a b > 0
  · rw [if_pos c, (t2 c).1]
    have := (t2 c).2.2
    rw [w64 (n := a / b) (by omega) (by omega), w64 (by omega) (by omega), if_neg this]
  · rw [if_neg c]
    by_cases c2 : Int.tmod a b = 0
    · rw [(t3 c2).1, if_pos (t3 c2).2, w64 (by omega) (by omega)]
    · have := t1 (by omega)
      rw [this.1, if_neg this.2.2, w64 (by omega) (by omega)]
theorem mod_eq (a b : Int) (hb : 1 ≤ b) (hb1 : b ≤ 9223372036854775807) : num_Mod.f a b = some (a % b, 0) := by
  obtain ⟨t1, t2, t3⟩ := tdivmod a b hb
  have e3 := Int.emod_nonneg a (show b ≠ 0 by omega)
  have e4 := Int.emod_lt_of_pos a (show 0 < b by omega)
  unfold num_Mod.f
  rw [if_neg (by omega), if_neg (by omega)]
  by_cases c : Int.tmod a b < 0
  · rw [if_pos c, (t1 c).2.1, w64 (by omega) (by omega), show a % b - b + b = a % b by omega]
  · rw [if_neg c]
    by_cases c2 : Int.tmod a b = 0
    · rw [c2, (t3 c2).2]
    · rw [(t2 (by omega)).2.1]
set_option maxHeartbeats 8000000 in
set_option maxRecDepth 100000 in
theorem division_low (a0 a1 : Int) (c : a1 < 1) (w : World) :
    Calls Try.prog 6 #[.int .i64 a0, .int .i64 a1] w fun e w' => e = .returned (.bool true) ∧ Drawn0 w w' := by
  have A3 := Aside0.mk (show num_Floor.f a0 a1 = some (0, 1) by unfold num_Floor.f; rw [if_pos c])
  have A4 := Aside0.mk (show num_Mod.f a0 a1 = some (0, 1) by unfold num_Mod.f; rw [if_pos c])
  have A5 := Aside0.mk (show num_Ceil.f a0 a1 = some (0, 1) by unfold num_Ceil.f; rw [if_pos c])
  have A6 := Aside0.mk awake_ok
  have c6b0 : decide (a1 < 1) = true := decide_eq_true c
  clear c
  go_enter Try.func6, Try.ntmps6
  go_wp2_with (first | (go_at_call 12; (with_reducible refine (num_Floor.calls a0 a1 0 1 _ A3.out).mono ?_); rintro e w' ⟨rfl, ⟨nd, rfl⟩⟩) | (go_at_call 14; (with_reducible refine (num_Mod.calls a0 a1 0 1 _ A4.out).mono ?_); rintro e w' ⟨rfl, ⟨nd, rfl⟩⟩) | (go_at_call 13; (with_reducible refine (num_Ceil.calls a0 a1 0 1 _ A5.out).mono ?_); rintro e w' ⟨rfl, ⟨nd, rfl⟩⟩) | (go_at_call 18; (with_reducible refine (headlandlaw01_awake.calls 12 true _ A6.out).mono ?_); rintro e w' ⟨rfl, ⟨nd, rfl⟩⟩))
  go_ret
  exact ⟨rfl, by repeat (first | exact Drawn0.refl _ | apply Drawn0.step)⟩
set_option maxHeartbeats 8000000 in
set_option maxRecDepth 100000 in
theorem division_high (a0 a1 : Int) (c : ¬ a1 < 1) (h0 : -9223372036854775808 ≤ a0) (h1 : a0 ≤ 9223372036854775807) (h2 : a1 ≤ 9223372036854775807) (w : World) :
    Calls Try.prog 6 #[.int .i64 a0, .int .i64 a1] w fun e w' => e = .returned (.bool true) ∧ Drawn0 w w' := by
  have d := ediv_bd a0 a1 (by omega) h0 h1
  have e3 := Int.emod_nonneg a0 (show a1 ≠ 0 by omega)
  have e4 := Int.emod_lt_of_pos a0 (show 0 < a1 by omega)
  have F := floor_eq a0 a1 (by omega) h0 h1
  have C := ceil_eq a0 a1 (by omega) h0 h1
  have M := mod_eq a0 a1 (by omega) h2
  have hw : wrap64 (wrap64 (a0 / a1 * a1) + a0 % a1) = a0 := by
    have : wrap64 (wrap64 (a0 / a1 * a1) + a0 % a1) = wrap64 (a0 / a1 * a1 + a0 % a1) := by unfold wrap64; omega
    rw [this, d.2.2.2, w64 (by omega) (by omega)]
  generalize hq : a0 / a1 = q at *
  generalize hr : a0 % a1 = r at *
  clear hq hr
  obtain ⟨q0, q1, q2, _⟩ := d
  have A6 := Aside0.mk awake_ok
  have A3 := Aside0.mk F
  have A4 := Aside0.mk M
  have c6b0 : decide (a1 < 1) = false := decide_eq_false c
  by_cases z : r = 0
  · subst z
    rw [if_pos rfl] at C
    have A5 := Aside0.mk C
    have b1 : decide (0 < a1) = true := decide_eq_true (by omega)
    have b2 : (wrap64 (wrap64 (q * a1)) == a0) = true := beq_iff_eq.mpr (by simpa using hw)
    have b3 : (wrap64 (wrap64 (q * a1)) != a0) = false := bne_eq_false_iff_eq.mpr (by simpa using hw)
    have b4 : (wrap64 (wrap64 (q * a1) + 0) == a0) = true := beq_iff_eq.mpr hw
    clear C F M hw c q2
    go_enter Try.func6, Try.ntmps6
    go_wp2_with (first | (go_at_call 12; (with_reducible refine (num_Floor.calls a0 a1 q 0 _ A3.out).mono ?_); rintro e w' ⟨rfl, ⟨nd, rfl⟩⟩) | (go_at_call 14; (with_reducible refine (num_Mod.calls a0 a1 0 0 _ A4.out).mono ?_); rintro e w' ⟨rfl, ⟨nd, rfl⟩⟩) | (go_at_call 13; (with_reducible refine (num_Ceil.calls a0 a1 q 0 _ A5.out).mono ?_); rintro e w' ⟨rfl, ⟨nd, rfl⟩⟩) | (go_at_call 18; (with_reducible refine (headlandlaw01_awake.calls 12 true _ A6.out).mono ?_); rintro e w' ⟨rfl, ⟨nd, rfl⟩⟩))
    go_ret
    exact ⟨rfl, by repeat (first | exact Drawn0.refl _ | apply Drawn0.step)⟩
  · rw [if_neg z] at C
    have q3 := q2 z
    have A5 := Aside0.mk C
    have b0 : (r == 0) = false := beq_eq_false_iff_ne.mpr z
    have b0' : (r != 0) = true := bne_iff_ne.mpr z
    have b1 : decide (r < a1) = true := decide_eq_true (by omega)
    have b1' : decide (0 ≤ r) = true := decide_eq_true (by omega)
    have b2 : (wrap64 (wrap64 (q * a1) + r) == a0) = true := beq_iff_eq.mpr hw
    have b3 : (wrap64 (wrap64 (q * a1) + r) != a0) = false := bne_eq_false_iff_eq.mpr hw
    clear C F M hw c q2 z
    go_enter Try.func6, Try.ntmps6
    go_wp2_with (first | (go_at_call 12; (with_reducible refine (num_Floor.calls a0 a1 q 0 _ A3.out).mono ?_); rintro e w' ⟨rfl, ⟨nd, rfl⟩⟩) | (go_at_call 14; (with_reducible refine (num_Mod.calls a0 a1 r 0 _ A4.out).mono ?_); rintro e w' ⟨rfl, ⟨nd, rfl⟩⟩) | (go_at_call 13; (with_reducible refine (num_Ceil.calls a0 a1 (q + 1) 0 _ A5.out).mono ?_); rintro e w' ⟨rfl, ⟨nd, rfl⟩⟩) | (go_at_call 18; (with_reducible refine (headlandlaw01_awake.calls 12 true _ A6.out).mono ?_); rintro e w' ⟨rfl, ⟨nd, rfl⟩⟩))
    go_ret
    exact ⟨rfl, by repeat (first | exact Drawn0.refl _ | apply Drawn0.step)⟩
theorem division_walk (a0 a1 : Int) (w : World) (w0 : (Lit.int .i64 a0).wf = true) (w1 : (Lit.int .i64 a1).wf = true) :
    Calls Try.prog 6 #[.int .i64 a0, .int .i64 a1] w fun e w' => e = .returned (.bool true) ∧ Below w.heap.size w w' := by
  have b0 := wfb w0
  have b1 := wfb w1
  by_cases c : a1 < 1
  · exact (division_low a0 a1 c w).mono fun _ _ ⟨h, d⟩ => ⟨h, d.below⟩
  · exact (division_high a0 a1 c b0.1 b0.2 b1.2 w).mono fun _ _ ⟨h, d⟩ => ⟨h, d.below⟩

end Go.Proofs.Ytimjibbjbfmkoaa.Division
