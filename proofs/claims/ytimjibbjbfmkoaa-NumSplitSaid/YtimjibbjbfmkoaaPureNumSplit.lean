/- The plain law behind NumSplit: Split gives gcd(a, b) as a x + b y with the least x (no condition). -/
import Derived.Test.YtimjibbjbfmkoaaPNumSplitx2
namespace Go.Proofs.Ytimjibbjbfmkoaa.Pure
open Go.RowKit Go.Proofs.Ytimjibbjbfmkoaa.PNumSplit Go.Proofs.YtimjibbjbfmkoaaW.PrintWords Go.Proofs.YtimjibbjbfmkoaaW.PrintLast
set_option linter.unusedVariables false
set_option linter.unusedSimpArgs false

theorem wfb {n : Int} (h : (Lit.int .i64 n).wf = true) : -9223372036854775808 ≤ n ∧ n ≤ 9223372036854775807 := by
  simp only [Lit.wf, IntKind.min, IntKind.max, IntKind.signed, IntKind.bits, Bool.and_eq_true, decide_eq_true_eq, if_true] at h
  omega
theorem w64 {n : Int} (h0 : -9223372036854775808 ≤ n) (h1 : n ≤ 9223372036854775807) : wrap64 n = n := by unfold wrap64; omega
theorem wu64 (n : Int) : IntKind.u64.wrap n = n % 18446744073709551616 := by simp [IntKind.wrap, IntKind.bits, IntKind.signed]
theorem awake_ok : headlandlaw01_awake.f 12 = some true := by decide +kernel
theorem tdivmod (a b : Int) (hb : 1 ≤ b) : (Int.tmod a b < 0 → Int.tdiv a b = a / b + 1 ∧ Int.tmod a b = a % b - b ∧ a % b ≠ 0) ∧ (Int.tmod a b > 0 → Int.tdiv a b = a / b ∧ Int.tmod a b = a % b ∧ a % b ≠ 0)
    ∧ (Int.tmod a b = 0 → Int.tdiv a b = a / b ∧ a % b = 0) := by
  have h1 := Int.tdiv_eq_ediv (a := a) (b := b)
  have h2 := Int.tmod_eq_emod (a := a) (b := b)
  have h3 := Int.emod_nonneg a (show b ≠ 0 by omega)
  have h4 := Int.emod_lt_of_pos a (show 0 < b by omega)
  have h5 : b.sign = 1 := Int.sign_eq_one_of_pos (by omega)
  have h6 : b ∣ a ↔ a % b = 0 := Int.dvd_iff_emod_eq_zero
  by_cases c : 0 ≤ a ∨ b ∣ a
  · rw [if_pos c] at h1 h2
    refine ⟨fun h => by omega, fun h => ⟨by omega, by omega, by omega⟩, fun h => ⟨by omega, by omega⟩⟩
  · rw [if_neg c] at h1 h2
    rw [h5] at h1
    have h7 : ¬ a % b = 0 := fun e => c (.inr (h6.2 e))
    refine ⟨fun h => ⟨by omega, by omega, by omega⟩, fun h => by omega, fun h => by omega⟩
theorem ediv_bd (a b : Int) (hb : 1 ≤ b) (h0 : -9223372036854775808 ≤ a) (h1 : a ≤ 9223372036854775807) :
    -9223372036854775808 ≤ a / b ∧ a / b ≤ 9223372036854775807 ∧ (a % b ≠ 0 → a / b < 9223372036854775807) ∧ a / b * b + a % b = a := by
  have e := Int.mul_ediv_add_emod a b
  have e3 := Int.emod_nonneg a (show b ≠ 0 by omega)
  have e4 := Int.emod_lt_of_pos a (show 0 < b by omega)
  rw [Int.mul_comm] at e
  by_cases b1 : b = 1
  · subst b1; omega
  · have h2 : a / b ≤ 9223372036854775806 := by
      have : a / b < 9223372036854775807 := Int.ediv_lt_of_lt_mul (by omega) (by omega)
      omega
    have h3 : -9223372036854775808 ≤ a / b := Int.le_ediv_of_mul_le (by omega) (by omega)
    omega
theorem floor_eq (a b : Int) (hb : 1 ≤ b) (h0 : -9223372036854775808 ≤ a) (h1 : a ≤ 9223372036854775807) : num_Floor.f a b = some (a / b, 0) := by
  obtain ⟨t1, t2, t3⟩ := tdivmod a b hb
  have d := ediv_bd a b hb h0 h1
  unfold num_Floor.f
  rw [if_neg (by omega), if_neg (by omega)]
  by_cases c : Int.tmod a b < 0
  · rw [if_pos c, (t1 c).1]
    have := (t1 c).2.2
    rw [w64 (n := a / b + 1) (by omega) (by omega), w64 (by omega) (by omega), show a / b + 1 - 1 = a / b by omega]
  · rw [if_neg c]
    have : Int.tdiv a b = a / b := by
      by_cases c2 : Int.tmod a b = 0
      · exact (t3 c2).1
      · exact (t2 (by omega)).1
    rw [this, w64 (by omega) (by omega)]
theorem ceil_eq (a b : Int) (hb : 1 ≤ b) (h0 : -9223372036854775808 ≤ a) (h1 : a ≤ 9223372036854775807) : num_Ceil.f a b = some (if a % b = 0 then a / b else a / b + 1, 0) := by
  obtain ⟨t1, t2, t3⟩ := tdivmod a b hb
  have d := ediv_bd a b hb h0 h1
  unfold num_Ceil.f
  rw [if_neg (by omega), if_neg (by omega)]
  by_cases c : Int.tmod a b > 0
  · rw [if_pos c, (t2 c).1]
    have := (t2 c).2.2
    rw [w64 (n := a / b) (by omega) (by omega), w64 (by omega) (by omega), if_neg this]
  · rw [if_neg c]
    by_cases c2 : Int.tmod a b = 0
    · rw [(t3 c2).1, if_pos (t3 c2).2, w64 (by omega) (by omega)]
    · have := t1 (by omega)
      rw [this.1, if_neg this.2.2, w64 (by omega) (by omega)]
theorem mod_eq (a b : Int) (hb : 1 ≤ b) (hb1 : b ≤ 9223372036854775807) : num_Mod.f a b = some (a % b, 0) := by
  obtain ⟨t1, t2, t3⟩ := tdivmod a b hb
  have e3 := Int.emod_nonneg a (show b ≠ 0 by omega)
  have e4 := Int.emod_lt_of_pos a (show 0 < b by omega)
  unfold num_Mod.f
  rw [if_neg (by omega), if_neg (by omega)]
  by_cases c : Int.tmod a b < 0
  · rw [if_pos c, (t1 c).2.1, w64 (by omega) (by omega), show a % b - b + b = a % b by omega]
  · rw [if_neg c]
    by_cases c2 : Int.tmod a b = 0
    · rw [c2, (t3 c2).2]
    · rw [(t2 (by omega)).2.1]
theorem fits_cases (a : Int) : num_Fits.f a = some (decide (-1048576 ≤ a ∧ a ≤ 1048576)) := by
  unfold num_Fits.f
  by_cases h : a ≥ -1048576
  · rw [if_pos h]; congr 1; simp only [decide_eq_decide]; omega
  · rw [if_neg h]; congr 1; symm; simp only [decide_eq_false_iff_not]; omega
theorem size_eq (n : Int) (h : n.natAbs ≤ 1048576) : num_size.f n = some (n.natAbs : Int) := by
  unfold num_size.f
  split
  · rw [wu64, wu64]; congr 1; omega
  · rw [wu64]; congr 1; omega
structure Inv (a b r s p q : Int) : Prop where
  hr : r.natAbs ≤ 1048576
  hs : s.natAbs ≤ 1048576
  hp : p.natAbs ≤ 1048576
  hq : q.natAbs ≤ 1048576
  sum : p.natAbs * s.natAbs + q.natAbs * r.natAbs ≤ b.natAbs
  yr : ∃ y, r = a * p + b * y
  ys : ∃ y, s = a * q + b * y
  dv : ∀ d : Int, d ∣ r → d ∣ s → d ∣ a ∧ d ∣ b
structure Good (a b g x y e : Int) : Prop where
  ok : e = 0
  sum : a * x + b * y = g
  pos : 0 < g
  da : g ∣ a
  db : g ∣ b
  x0 : 0 ≤ x
  x1 : x < (b.natAbs : Int) / g
theorem step_pq {P Q R S K T B D : Nat} (h : P * S + Q * R ≤ B) (hR : R = S * K + T) (hD : D ≤ P + K * Q) : Q * T + D * S ≤ B := by
  have h1 : D * S ≤ (P + K * Q) * S := Nat.mul_le_mul_right _ hD
  have h2 : (P + K * Q) * S = P * S + Q * (S * K) := by rw [Nat.add_mul, Nat.mul_comm K Q, Nat.mul_assoc, Nat.mul_comm K S]
  have h3 : Q * R = Q * (S * K) + Q * T := by rw [hR, Nat.mul_add]
  omega
theorem Inv.step {a b r s p q : Int} (hb : b.natAbs ≤ 1048576) (I : Inv a b r s p q) (hs : s ≠ 0) :
    wrap64 (wrap64 (Int.tdiv r s) * s) = Int.tdiv r s * s ∧ wrap64 (r - Int.tdiv r s * s) = Int.tmod r s ∧ wrap64 (wrap64 (Int.tdiv r s) * q) = Int.tdiv r s * q ∧ wrap64 (p - Int.tdiv r s * q) = p - Int.tdiv r s * q
    ∧ (Int.tmod r s).natAbs < s.natAbs ∧ Inv a b s (Int.tmod r s) q (p - Int.tdiv r s * q) := by
  obtain ⟨br, bs, bp, bq, sum, ⟨y, yr⟩, ⟨z, ys⟩, dv⟩ := I
  have hS : 0 < s.natAbs := by omega
  have e : r.natAbs = s.natAbs * (Int.tdiv r s).natAbs + (Int.tmod r s).natAbs := by
    rw [Int.natAbs_tdiv, Int.natAbs_tmod]; exact (Nat.div_add_mod _ _).symm
  have hT : (Int.tmod r s).natAbs < s.natAbs := by rw [Int.natAbs_tmod]; exact Nat.mod_lt _ hS
  have em : Int.tdiv r s * s + Int.tmod r s = r := by rw [Int.mul_comm]; exact Int.mul_tdiv_add_tmod r s
  have hK : (Int.tdiv r s).natAbs ≤ r.natAbs := by
    have := Nat.le_mul_of_pos_left (Int.tdiv r s).natAbs hS
    omega
  have n1 : (Int.tdiv r s * s).natAbs = s.natAbs * (Int.tdiv r s).natAbs := by rw [Int.natAbs_mul, Nat.mul_comm]
  have n2 : (Int.tdiv r s * q).natAbs = (Int.tdiv r s).natAbs * q.natAbs := Int.natAbs_mul _ _
  have n3 : (Int.tdiv r s).natAbs * q.natAbs ≤ q.natAbs * r.natAbs := by rw [Nat.mul_comm]; exact Nat.mul_le_mul_left _ hK
  have hD : (p - Int.tdiv r s * q).natAbs ≤ p.natAbs + (Int.tdiv r s).natAbs * q.natAbs := by omega
  have hsum := step_pq sum e hD
  have hq' : (p - Int.tdiv r s * q).natAbs ≤ (p - Int.tdiv r s * q).natAbs * s.natAbs := Nat.le_mul_of_pos_right _ hS
  have w0 : wrap64 (Int.tdiv r s) = Int.tdiv r s := w64 (by omega) (by omega)
  rw [w0]
  refine ⟨w64 (by omega) (by omega), ?_, w64 (by omega) (by omega), w64 (by omega) (by omega), hT, ⟨bs, by omega, bq, by omega, by omega, ⟨z, ys⟩, ⟨y - Int.tdiv r s * z, ?_⟩, ?_⟩⟩
  · rw [w64 (by omega) (by omega)]; omega
  · have : Int.tmod r s = r - Int.tdiv r s * s := by omega
    rw [this]
    conv => lhs; rw [yr]
    conv => lhs; rhs; rw [ys]
    simp only [Int.mul_sub, Int.mul_add]
    rw [Int.mul_left_comm (Int.tdiv _ _) a q, Int.mul_left_comm (Int.tdiv _ _) b z]
    rw [← yr, ← ys]
    omega
  · intro d d1 d2
    exact dv d (by rw [← em]; exact Int.dvd_add (Int.dvd_mul_of_dvd_right d1) d2) d1
theorem fin_good (a b g p : Int) (ha : a.natAbs ≤ 1048576) (hb : b.natAbs ≤ 1048576) (hb0 : b ≠ 0) (g0 : 0 < g) (da : g ∣ a) (db : g ∣ b) (hp : ∃ y, g = a * p + b * y) (bp : p.natAbs ≤ 1048576) :
    ∃ x y, num_Mod.f p (wrap64 (Int.tdiv (wrap64 (b.natAbs : Int)) g)) = some (x, 0) ∧ wrap64 (Int.tdiv (wrap64 (g - wrap64 (a * x))) b) = y ∧ Good a b g x y 0 := by
  have dn : g ∣ (b.natAbs : Int) := Int.dvd_natAbs.2 db
  have hst : (b.natAbs : Int) = g * ((b.natAbs : Int) / g) := (Int.mul_ediv_cancel' dn).symm
  have hpos : 0 < (b.natAbs : Int) / g := by
    apply Int.ediv_pos_of_pos_of_dvd <;> first | assumption | omega
  have hle : (b.natAbs : Int) / g ≤ (b.natAbs : Int) := Int.ediv_le_self _ (by omega)
  have hgb : g ≤ (b.natAbs : Int) := Int.le_of_dvd (by omega) dn
  rw [w64 (n := (b.natAbs : Int)) (by omega) (by omega), Int.tdiv_eq_ediv_of_nonneg (by omega), w64 (n := (b.natAbs : Int) / g) (by omega) (by omega)]
  rw [mod_eq _ _ (by omega) (by omega)]
  have x0 := Int.emod_nonneg p (show (b.natAbs : Int) / g ≠ 0 by omega)
  have x1 := Int.emod_lt_of_pos p hpos
  generalize hx : p % ((b.natAbs : Int) / g) = x at x0 x1
  -- b divides g - a x
  have hdiv : b ∣ g - a * x := by
    obtain ⟨y, hy⟩ := hp
    have h1 : ((b.natAbs : Int) / g) ∣ p - x := by rw [← hx]; exact Int.dvd_self_sub_emod
    obtain ⟨t, ht⟩ := h1
    obtain ⟨u, hu⟩ := da
    have h2 : g - a * x = a * (p - x) + b * y := by rw [Int.mul_sub]; omega
    rw [h2]
    refine Int.dvd_add ?_ (Int.dvd_mul_right _ _)
    rw [ht, hu, show g * u * ((b.natAbs : Int) / g * t) = g * ((b.natAbs : Int) / g) * (u * t) by simp only [Int.mul_assoc, Int.mul_left_comm, Int.mul_comm], ← hst]
    exact Int.dvd_mul_of_dvd_left (Int.dvd_natAbs_self)
  obtain ⟨y, hy⟩ := hdiv
  have bax : (a * x).natAbs ≤ 1048576 * 1048576 := by rw [Int.natAbs_mul]; exact Nat.mul_le_mul ha (by omega)
  have by' : y.natAbs ≤ (g - a * x).natAbs := by rw [hy, Int.natAbs_mul]; exact Nat.le_mul_of_pos_left _ (by omega)
  refine ⟨x, y, rfl, ?_, rfl, by omega, g0, ‹_›, db, x0, by omega⟩
  rw [w64 (n := a * x) (by omega) (by omega), w64 (n := g - a * x) (by omega) (by omega), hy, Int.mul_tdiv_cancel_left _ hb0, w64 (by omega) (by omega)]
theorem split_loop (a b : Int) (ha : a.natAbs ≤ 1048576) (hb : b.natAbs ≤ 1048576) (hb0 : b ≠ 0) (k : Nat) : ∀ r s p q, Inv a b r s p q → s.natAbs < k →
    ∃ g x y, num_Split.l0 k a b r s p q = some (g, x, y, 0) ∧ Good a b g x y 0 := by
  induction k with
  | zero => intro r s p q _ h; omega
  | succ k ih =>
    intro r s p q I hk
    simp only [num_Split.l0]
    by_cases c : s = 0
    · rw [if_pos c]
      subst c
      obtain ⟨br, bs, bp, bq, sum, ⟨y, yr⟩, _, dv⟩ := I
      have dr := dv r (Int.dvd_refl r) (Int.dvd_zero r)
      have r0 : r ≠ 0 := fun e => hb0 (by rw [e] at dr; exact Int.zero_dvd.1 dr.2)
      rw [size_eq b hb]
      simp only [Option.bind_some]
      by_cases n : r < 0
      · obtain ⟨x, z, h1, h2, G⟩ := fin_good a b (-r) (-p) ha hb hb0 (by omega) (Int.neg_dvd.2 dr.1) (Int.neg_dvd.2 dr.2) ⟨-y, by rw [Int.mul_neg, Int.mul_neg]; omega⟩ (by omega)
        rw [if_pos n, w64 (n := -r) (by omega) (by omega), w64 (n := -p) (by omega) (by omega), if_neg (by omega), h1]
        simp only [Option.bind_some]
        rw [if_neg hb0, h2]
        exact ⟨_, _, _, rfl, G⟩
      · obtain ⟨x, z, h1, h2, G⟩ := fin_good a b r p ha hb hb0 (by omega) dr.1 dr.2 ⟨y, yr⟩ bp
        rw [if_neg n, if_neg (by omega), h1]
        simp only [Option.bind_some]
        rw [if_neg hb0, h2]
        exact ⟨_, _, _, rfl, G⟩
    · rw [if_neg c]
      obtain ⟨e1, e2, e3, e4, lt, I'⟩ := I.step hb c
      rw [e1, e2, e3, e4]
      exact ih _ _ _ _ I' (by omega)
theorem split_main (a b : Int) (ha : a.natAbs ≤ 1048576) (hb : b.natAbs ≤ 1048576) (hb0 : b ≠ 0) :
    ∃ g x y, num_Split.f 1048578 a b = some (g, x, y, 0) ∧ Good a b g x y 0 := by
  obtain ⟨g, x, y, h, G⟩ := split_loop a b ha hb hb0 1048577 a b 1 0 ⟨ha, hb, by decide, by decide, by simp, ⟨0, by simp⟩, ⟨1, by simp⟩, fun d h1 h2 => ⟨h1, h2⟩⟩ (by omega)
  refine ⟨g, x, y, ?_, G⟩
  unfold num_Split.f
  rw [fits_cases, fits_cases]
  simp only [Option.bind_some]
  rw [if_pos (by simp; omega)]
  rw [show (1048578 : Nat) = 1048577 + 1 from rfl]
  simp only [num_Split.j0]
  rw [if_neg (by simp; omega), if_neg hb0]
  exact h
theorem split_zero (a : Int) (ha : a.natAbs ≤ 1048576) : num_Split.f 1048578 a 0 = some ((a.natAbs : Int), Int.sign a, 0, 0) := by
  unfold num_Split.f
  rw [fits_cases, fits_cases]
  simp only [Option.bind_some]
  rw [if_pos (by simp; omega)]
  rw [show (1048578 : Nat) = 1048577 + 1 from rfl]
  simp only [num_Split.j0]
  rw [if_neg (by simp), if_pos trivial]
  by_cases c : a > 0
  · rw [if_pos c, Int.sign_eq_one_of_pos c, show ((a.natAbs : Nat) : Int) = a by omega]
  · rw [if_neg c]
    by_cases d : a < 0
    · rw [if_pos d, Int.sign_eq_neg_one_of_neg d, w64 (by omega) (by omega), show ((a.natAbs : Nat) : Int) = -a by omega]
    · rw [if_neg d]; obtain rfl : a = 0 := by omega
      rfl
theorem split_bad (a b : Int) (h : ¬ (a.natAbs ≤ 1048576 ∧ b.natAbs ≤ 1048576)) (k : Nat) : num_Split.f (k + 1) a b = some (0, 0, 0, 6) := by
  unfold num_Split.f
  rw [fits_cases, fits_cases]
  simp only [Option.bind_some, num_Split.j0]
  by_cases c : a.natAbs ≤ 1048576
  · rw [if_pos (by simp; omega), if_pos (by simp; omega)]
  · rw [if_neg (by simp; omega), if_pos trivial]
theorem rfits (a : Int) : headlandref01_Fits.f a = num_Fits.f a := rfl
theorem tmod_zero {a b : Int} (h : b ∣ a) : Int.tmod a b = 0 := Int.tmod_eq_zero_of_dvd h
theorem awake_at (k : Nat) (h : 12 ≤ k) : headlandlaw01_awake.f k = some true := at_rounds headlandlaw01_awake.mono h awake_ok
theorem NumSplit : headlandlaw01_NumSplit.Pure := by
  intro a b ha hb
  have ha := wfb ha
  have hb := wfb hb
  refine ⟨1048578, ?_⟩
  unfold headlandlaw01_NumSplit.f
  rw [rfits, rfits, fits_cases, fits_cases]
  by_cases c : a.natAbs ≤ 1048576 ∧ b.natAbs ≤ 1048576
  · obtain ⟨ca, cb⟩ := c
    have key : ∀ g x y, g ≥ 0 → a * x + b * y = g → x.natAbs ≤ 1048576 → y.natAbs ≤ 2000000000000 → headlandlaw01_NumSplit.j1 1048577 a b g x y false = some true → headlandlaw01_NumSplit.j0 1048578 a b g x y 0 false = some true := by
      intro g x y g0 e bx by' h
      rw [show (1048578 : Nat) = 1048577 + 1 from rfl]
      simp only [headlandlaw01_NumSplit.j0]
      have b1 : (a * x).natAbs ≤ 1048576 * 1048576 := by rw [Int.natAbs_mul]; exact Nat.mul_le_mul ca bx
      have b2 : (b * y).natAbs ≤ 1048576 * 2000000000000 := by rw [Int.natAbs_mul]; exact Nat.mul_le_mul cb by'
      rw [if_neg (by simp), if_pos trivial, w64 (n := a * x) (by omega) (by omega), w64 (n := b * y) (by omega) (by omega), w64 (by omega) (by omega), if_pos e, decide_eq_false (by omega)]
      exact h
    by_cases z : b = 0
    · subst z
      rw [split_zero a ca]
      simp only [Option.bind_some]
      rw [if_pos (by simp; omega), show (!decide (-1048576 ≤ (0 : Int) ∧ (0 : Int) ≤ 1048576)) = false from by decide]
      refine key _ _ _ (by omega) (by rw [Int.mul_sign_self]; simp) ?_ (by decide) ?_
      · rcases Int.lt_trichotomy a 0 with h | h | h
        · rw [Int.sign_eq_neg_one_of_neg h]; decide
        · rw [h]; decide
        · rw [Int.sign_eq_one_of_pos h]; decide
      · rw [show (1048577 : Nat) = 1048576 + 1 from rfl]
        simp only [headlandlaw01_NumSplit.j1]
        rw [if_neg (by simp), if_pos trivial, if_pos trivial, if_pos, awake_at _ (by omega)]
        · rfl
        · rw [w64 (by omega) (by omega)]; unfold mx; omega
    · obtain ⟨g, x, y, h, G⟩ := split_main a b ca cb z
      rw [h]
      simp only [Option.bind_some]
      rw [if_pos (by simp; omega), show (!decide (-1048576 ≤ b ∧ b ≤ 1048576)) = false from by simp; omega]
      have dn : g ∣ (b.natAbs : Int) := Int.dvd_natAbs.2 G.db
      have g0 := G.pos
      have hle : (b.natAbs : Int) / g ≤ (b.natAbs : Int) := Int.ediv_le_self _ (by omega)
      have hgb : g ≤ (b.natAbs : Int) := Int.le_of_dvd (by omega) dn
      have x0 := G.x0
      have x1 := G.x1
      have sum := G.sum
      have b1 : (a * x).natAbs ≤ 1048576 * 1048576 := by rw [Int.natAbs_mul]; exact Nat.mul_le_mul ca (by omega)
      have b2 : y.natAbs ≤ (b * y).natAbs := by rw [Int.natAbs_mul]; exact Nat.le_mul_of_pos_left _ (by omega)
      refine key _ _ _ (by omega) sum (by omega) (by omega) ?_
      rw [show (1048577 : Nat) = 1048576 + 1 from rfl]
      simp only [headlandlaw01_NumSplit.j1]
      have em : mx b (wrap64 (-b)) = (b.natAbs : Int) := by rw [w64 (by omega) (by omega)]; unfold mx; omega
      rw [if_neg (by simp), if_neg z, if_pos g0, if_neg (by omega), if_pos (tmod_zero G.da), if_pos (tmod_zero G.db), if_pos x0, em, Int.tdiv_eq_ediv_of_nonneg (by omega), w64 (by omega) (by omega), if_pos x1, awake_at _ (by omega)]
      rfl
  · rw [split_bad a b c 1048577]
    have fin : headlandlaw01_NumSplit.j0 1048578 a b 0 0 0 6 true = some true := by
      rw [show (1048578 : Nat) = 1048577 + 1 from rfl]
      simp only [headlandlaw01_NumSplit.j0]
      rw [awake_at _ (by omega)]
      simp
    simp only [Option.bind_some]
    by_cases d : a.natAbs ≤ 1048576
    · rw [if_pos (by simp; omega), show (!decide (-1048576 ≤ b ∧ b ≤ 1048576)) = true from by simp; omega]
      exact fin
    · rw [if_neg (by simp; omega)]
      exact fin

end Go.Proofs.Ytimjibbjbfmkoaa.Pure
