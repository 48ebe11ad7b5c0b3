/- Contracts of num.fold, num.Gcd and num.Lcm: what they return for every list. -/
import Derived.Test.YtimjibbjbfmkoaaBa2
namespace Go.Proofs.Ytimjibbjbfmkoaa.Man
open Go.RowKit Go.Proofs.Ytimjibbjbfmkoaa.Ba Go.Proofs.YtimjibbjbfmkoaaW.PrintWords Go.Proofs.YtimjibbjbfmkoaaW.PrintLast
set_option linter.unusedVariables false
set_option linter.unusedSimpArgs false

theorem take_succ_fold (G : Int → Int → Int) (z : Int) (l : List Int) (i : Nat) (h : i < l.length) : (l.take (i + 1)).foldl G z = G ((l.take i).foldl G z) (rd l (i : Int)) := by
  rw [List.take_succ_eq_append_getElem h, List.foldl_append]
  simp [rd, h]
set_option maxHeartbeats 4000000 in
set_option maxRecDepth 100000 in
/-- fold over the closure Gcd: whatever the closure is known to answer on the elements of the list. -/
theorem fold_Gcd (G : Int → Int → Int) (P : Int → Prop) (A0 : Option Addr) (c0 : Nat) (l0 : List Int) (z : Int) (w : World) (hr0 : Kd.C (Kd.int .i64) w A0 l0.length l0) (hc0 : l0.length ≤ c0) (hlen : l0.length ≤ 9223372036854775806)
    (hz : P z) (hP : ∀ a n, P a → n ∈ l0 → P (G a n)) (hG : ∀ a n W, P a → n ∈ l0 → Calls Try.prog 34 #[.int .u64 a, .int .i64 n] W fun e w' => e = .returned (.int .u64 (G a n)) ∧ Drawn0 W w') :
    Calls Try.prog 33 #[.slice A0 l0.length c0, .int .u64 z, .func (.func 34) #[] #[]] w fun e w' => e = .returned (.int .u64 (l0.foldl G z)) ∧ Drawn0 w w' := by
  have HR0 := Aside0.mk hr0
  have HC0 := Aside0.mk hc0
  have HZ := Aside0.mk hz
  have HP := Aside0.mk hP
  have HG := Aside0.mk hG
  clear hr0 hc0 hz hP hG
  go_enter Try.func33, Try.ntmps33
  go_wp2
  go_loopw [1, 11] (fun a i wr => ∃ (x : Int) (k : Nat), a = .int .u64 x ∧ i = .int .i64 k ∧ Aside0 (k ≤ l0.length) ∧ Aside0 (x = (l0.take k).foldl G z) ∧ Aside0 (P x) ∧ Drawn0 w wr) (fun _ i _ => l0.length - (intOf i).toNat)
  case atStart => exact ⟨z, 0, rfl, rfl, ⟨Nat.zero_le _⟩, ⟨rfl⟩, HZ, Drawn0.refl _⟩
  case round =>
    obtain ⟨x, k, rfl, rfl, HK, HX, HQ, ⟨m1, rfl⟩⟩ := hrel
    by_cases c2 : k < l0.length
    · have hk : ((k : Nat) : Int) < (l0.length : Int) := by omega
      have c2b0 : decide (((k : Nat) : Int) < (l0.length : Int)) = true := decide_eq_true hk
      obtain ⟨ad, e, hx⟩ := Kd.at_int HR0.out (k : Int) (by omega) hk
      cases e
      rw [Int.toNat_natCast] at hx
      have c2b1 : decide (k < l0.length) = true := decide_eq_true c2
      have hmem : rd l0 (k : Int) ∈ l0 := by simp [rd, c2]
      have A1 := Aside0.mk (fun W => HG.out x (rd l0 (k : Int)) W HQ.out hmem)
      have A2 := Aside0.mk (HP.out x (rd l0 (k : Int)) HQ.out hmem)
      have A3 := Aside0.mk (take_succ_fold G z l0 k c2)
      have HC2 := Aside0.mk c2
      clear c2 hmem
      go_wp2_with (first | (go_at_call 34; (with_reducible refine (A1.out _).mono ?_); rintro e w' ⟨rfl, ⟨nd, rfl⟩⟩))
      go_roundw
      case rel => exact ⟨_, k + 1, rfl, by go_num, ⟨HC2.out⟩, ⟨by rw [A3.out, ← HX.out]⟩, A2, by repeat (first | exact Drawn0.refl _ | apply Drawn0.step)⟩
      case measure => have := HC2.out; simp [intOf]; omega
    · have c2b0 : decide (((k : Nat) : Int) < (l0.length : Int)) = false := decide_eq_false (by omega)
      have c2b1 : decide (k < l0.length) = false := decide_eq_false c2
      have e : k = l0.length := by have := HK.out; omega
      have A3 : Aside0 (x = l0.foldl G z) := ⟨by rw [HX.out, e, List.take_length]⟩
      clear e c2
      go_wp2
      go_ret
      exact ⟨by rw [A3.out]; rfl, by repeat (first | exact Drawn0.refl _ | apply Drawn0.step)⟩
set_option maxHeartbeats 4000000 in
set_option maxRecDepth 100000 in
/-- fold over the closure Lcm: whatever the closure is known to answer on the elements of the list. -/
theorem fold_Lcm (G : Int → Int → Int) (P : Int → Prop) (A0 : Option Addr) (c0 : Nat) (l0 : List Int) (z : Int) (w : World) (hr0 : Kd.C (Kd.int .i64) w A0 l0.length l0) (hc0 : l0.length ≤ c0) (hlen : l0.length ≤ 9223372036854775806)
    (hz : P z) (hP : ∀ a n, P a → n ∈ l0 → P (G a n)) (hG : ∀ a n W, P a → n ∈ l0 → Calls Try.prog 36 #[.int .u64 a, .int .i64 n] W fun e w' => e = .returned (.int .u64 (G a n)) ∧ Drawn0 W w') :
    Calls Try.prog 33 #[.slice A0 l0.length c0, .int .u64 z, .func (.func 36) #[] #[]] w fun e w' => e = .returned (.int .u64 (l0.foldl G z)) ∧ Drawn0 w w' := by
  have HR0 := Aside0.mk hr0
  have HC0 := Aside0.mk hc0
  have HZ := Aside0.mk hz
  have HP := Aside0.mk hP
  have HG := Aside0.mk hG
  clear hr0 hc0 hz hP hG
  go_enter Try.func33, Try.ntmps33
  go_wp2
  go_loopw [1, 11] (fun a i wr => ∃ (x : Int) (k : Nat), a = .int .u64 x ∧ i = .int .i64 k ∧ Aside0 (k ≤ l0.length) ∧ Aside0 (x = (l0.take k).foldl G z) ∧ Aside0 (P x) ∧ Drawn0 w wr) (fun _ i _ => l0.length - (intOf i).toNat)
  case atStart => exact ⟨z, 0, rfl, rfl, ⟨Nat.zero_le _⟩, ⟨rfl⟩, HZ, Drawn0.refl _⟩
  case round =>
    obtain ⟨x, k, rfl, rfl, HK, HX, HQ, ⟨m1, rfl⟩⟩ := hrel
    by_cases c2 : k < l0.length
    · have hk : ((k : Nat) : Int) < (l0.length : Int) := by omega
      have c2b0 : decide (((k : Nat) : Int) < (l0.length : Int)) = true := decide_eq_true hk
      obtain ⟨ad, e, hx⟩ := Kd.at_int HR0.out (k : Int) (by omega) hk
      cases e
      rw [Int.toNat_natCast] at hx
      have c2b1 : decide (k < l0.length) = true := decide_eq_true c2
      have hmem : rd l0 (k : Int) ∈ l0 := by simp [rd, c2]
      have A1 := Aside0.mk (fun W => HG.out x (rd l0 (k : Int)) W HQ.out hmem)
      have A2 := Aside0.mk (HP.out x (rd l0 (k : Int)) HQ.out hmem)
      have A3 := Aside0.mk (take_succ_fold G z l0 k c2)
      have HC2 := Aside0.mk c2
      clear c2 hmem
      go_wp2_with (first | (go_at_call 36; (with_reducible refine (A1.out _).mono ?_); rintro e w' ⟨rfl, ⟨nd, rfl⟩⟩))
      go_roundw
      case rel => exact ⟨_, k + 1, rfl, by go_num, ⟨HC2.out⟩, ⟨by rw [A3.out, ← HX.out]⟩, A2, by repeat (first | exact Drawn0.refl _ | apply Drawn0.step)⟩
      case measure => have := HC2.out; simp [intOf]; omega
    · have c2b0 : decide (((k : Nat) : Int) < (l0.length : Int)) = false := decide_eq_false (by omega)
      have c2b1 : decide (k < l0.length) = false := decide_eq_false c2
      have e : k = l0.length := by have := HK.out; omega
      have A3 : Aside0 (x = l0.foldl G z) := ⟨by rw [HX.out, e, List.take_length]⟩
      clear e c2
      go_wp2
      go_ret
      exact ⟨by rw [A3.out]; rfl, by repeat (first | exact Drawn0.refl _ | apply Drawn0.step)⟩
theorem w64 {n : Int} (h0 : -9223372036854775808 ≤ n) (h1 : n ≤ 9223372036854775807) : wrap64 n = n := by unfold wrap64; omega
theorem wu64 (n : Int) : IntKind.u64.wrap n = n % 18446744073709551616 := by simp [IntKind.wrap, IntKind.bits, IntKind.signed]
theorem nsize_eq (n : Int) (h : n.natAbs ≤ 9223372036854775808) : num_size.f n = some (n.natAbs : Int) := by
  unfold num_size.f
  split
  · rw [wu64, wu64]; congr 1; omega
  · rw [wu64]; congr 1; omega
theorem ncommon (b : Nat) : ∀ a : Nat, ∃ k, num_common.l0 k a b = some ((Nat.gcd a b : Nat) : Int) := by
  induction b using Nat.strongRecOn with
  | ind b ih =>
    intro a
    by_cases c : b = 0
    · subst c
      refine ⟨1, ?_⟩
      simp only [num_common.l0]
      rw [if_neg (by omega)]
      simp
    · obtain ⟨k, h⟩ := ih (a % b) (Nat.mod_lt _ (by omega)) b
      refine ⟨k + 1, ?_⟩
      simp only [num_common.l0]
      rw [if_pos (by omega), if_neg (by omega), ← Int.ofNat_tmod, h]
      have e : Nat.gcd b (a % b) = Nat.gcd a b := by
        rw [Nat.gcd_comm a b, Nat.gcd_rec b a, Nat.gcd_comm]
      rw [e]
def gfold (g : Nat) (l : List Int) : Nat := l.foldl (fun g n => Nat.gcd g n.natAbs) g
def gout (g : Nat) : Int × Int := if g = 9223372036854775808 then (0, 3) else ((g : Int), 0)
theorem gcd_bd {g a : Nat} (hg : g ≤ 9223372036854775808) (ha : a ≤ 9223372036854775808) : Nat.gcd g a ≤ 9223372036854775808 := by
  by_cases c : g = 0
  · subst c; simpa using ha
  · exact Nat.le_trans (Nat.gcd_le_left _ (by omega)) hg
theorem gfold_bd (l : List Int) (hw : ∀ x ∈ l, x.natAbs ≤ 9223372036854775808) : ∀ g, g ≤ 9223372036854775808 → gfold g l ≤ 9223372036854775808 := by
  induction l with
  | nil => intro g h; exact h
  | cons a l ih => intro g h; exact ih (fun x hx => hw x (List.mem_cons_of_mem _ hx)) _ (gcd_bd h (hw a (List.mem_cons_self)))
/-- The step of Gcd's closure. -/
def gstep (a n : Int) : Int := ((Nat.gcd a.toNat n.natAbs : Nat) : Int)
theorem gstep_fold (l : List Int) : ∀ g : Nat, l.foldl gstep (g : Int) = (gfold g l : Int) := by
  induction l with
  | nil => intro g; rfl
  | cons a l ih => intro g; simp only [List.foldl_cons, gstep, Int.toNat_natCast]; exact ih _
def num_Gcd.f (l : List Int) : Option (Int × Int) := if l.length ≤ 9223372036854775806 ∧ (∀ x ∈ l, x.natAbs ≤ 9223372036854775808) then some (gout (gfold 0 l)) else none
set_option maxHeartbeats 4000000 in
set_option maxRecDepth 100000 in
theorem num_Gcd.calls (A0 : Option Addr) (c0 : Nat) (l0 : List Int) (r1 r2 : Int) (w : World) (hr0 : Kd.C (Kd.int .i64) w A0 l0.length l0) (hc0 : l0.length ≤ c0) (h : num_Gcd.f l0 = some (r1, r2)) :
    Calls Try.prog 27 #[.slice A0 l0.length c0] w fun e w' => e = .returned (.tuple #[.int .i64 r1, .int .i64 r2]) ∧ Drawn0 w w' := by
  unfold num_Gcd.f at h
  split at h
  case isFalse => cases h
  rename_i hb
  obtain ⟨hl, hw⟩ := hb
  have hg : gout (gfold 0 l0) = (r1, r2) := Option.some.inj h
  have hgb := gfold_bd l0 hw 0 (by omega)
  have F := Aside0.mk (fun W hr => fold_Gcd gstep (fun a => 0 ≤ a ∧ a ≤ 9223372036854775808) A0 c0 l0 0 W hr hc0 hl ⟨by omega, by omega⟩
    (fun a n ha hn => ⟨by unfold gstep; omega, by have := gcd_bd (g := a.toNat) (a := n.natAbs) (by omega) (hw n hn); unfold gstep; omega⟩)
    (fun a n W' ha hn => by
      obtain ⟨k, hk⟩ := ncommon n.natAbs a.toNat
      refine num_Gcd_1.calls k a n (gstep a n) W' ?_
      unfold num_Gcd_1.f num_common.f
      rw [nsize_eq n (hw n hn)]
      simp only [Option.bind_some]
      have hk' : num_common.l0 k a (n.natAbs : Int) = some ((Nat.gcd a.toNat n.natAbs : Nat) : Int) := by
        have e : ((a.toNat : Nat) : Int) = a := by omega
        rw [e] at hk; exact hk
      rw [hk']; rfl))
  rw [show l0.foldl gstep 0 = (gfold 0 l0 : Int) from gstep_fold l0 0] at F
  generalize gfold 0 l0 = g at *
  have HR0 := Aside0.mk hr0
  have HC0 := Aside0.mk hc0
  have HE := Aside0.mk hg
  clear hr0 hc0 h hw hl hg
  by_cases c : g = 9223372036854775808
  · have e1 : gout g = (0, 3) := by unfold gout; rw [if_pos c]
    rw [e1] at HE
    obtain ⟨rfl, rfl⟩ := Prod.mk.inj HE.out
    have b1 : decide ((9223372036854775807 : Int) < (g : Int)) = true := decide_eq_true (by omega)
    clear e1 HE c hgb
    go_enter Try.func27, Try.ntmps27
    go_wp2_with (first | (go_at_call 33; (with_reducible refine (F.out _ HR0.out).mono ?_); rintro e w' ⟨rfl, ⟨nd, rfl⟩⟩))
    go_ret2
    exact ⟨rfl, by repeat (first | exact Drawn0.refl _ | apply Drawn0.step)⟩
  · have e1 : gout g = ((g : Int), 0) := by unfold gout; rw [if_neg c]
    rw [e1] at HE
    obtain ⟨rfl, rfl⟩ := Prod.mk.inj HE.out
    have b1 : decide ((9223372036854775807 : Int) < (g : Int)) = false := decide_eq_false (by omega)
    have hg1 : (g : Int) ≤ 9223372036854775807 := by omega
    clear e1 HE c hgb
    go_enter Try.func27, Try.ntmps27
    go_wp2_with (first | (go_at_call 33; (with_reducible refine (F.out _ HR0.out).mono ?_); rintro e w' ⟨rfl, ⟨nd, rfl⟩⟩))
    go_ret2
    exact ⟨rfl, by repeat (first | exact Drawn0.refl _ | apply Drawn0.step)⟩
/-- The step of Lcm's closure, for n at least 1. -/
def lstep (m n : Int) : Int := if m > 512 then 513 else if n > 512 then 513 else ((m.toNat / Nat.gcd m.toNat n.toNat * n.toNat : Nat) : Int)
theorem lstep_bd {m n : Int} (h1 : 1 ≤ m) (h2 : 1 ≤ n) : 1 ≤ lstep m n ∧ lstep m n ≤ 262144 := by
  unfold lstep
  split
  · omega
  · split
    · omega
    · have hg : Nat.gcd m.toNat n.toNat ≤ m.toNat := Nat.gcd_le_left _ (by omega)
      have hg0 : 0 < Nat.gcd m.toNat n.toNat := Nat.gcd_pos_of_pos_left _ (by omega)
      have h3 : 1 ≤ m.toNat / Nat.gcd m.toNat n.toNat := Nat.div_pos hg hg0
      have h4 : m.toNat / Nat.gcd m.toNat n.toNat ≤ m.toNat := Nat.div_le_self _ _
      have h5 : m.toNat / Nat.gcd m.toNat n.toNat * n.toNat ≤ 512 * 512 := Nat.mul_le_mul (by omega) (by omega)
      have h6 : 1 * 1 ≤ m.toNat / Nat.gcd m.toNat n.toNat * n.toNat := Nat.mul_le_mul h3 (by omega)
      omega
theorem lstep_f {m n : Int} (h1 : 1 ≤ m) (h1' : m ≤ 262144) (h2 : 1 ≤ n) (h3 : n ≤ 9223372036854775807) : ∃ k, num_Lcm_1.f k m n = some (lstep m n) := by
  obtain ⟨k, hk⟩ := ncommon n.toNat m.toNat
  refine ⟨k, ?_⟩
  have e1 : ((m.toNat : Nat) : Int) = m := by omega
  have e2 : ((n.toNat : Nat) : Int) = n := by omega
  have hg0 : 0 < Nat.gcd m.toNat n.toNat := Nat.gcd_pos_of_pos_left _ (by omega)
  rw [e1, e2] at hk
  have hb := lstep_bd h1 h2
  unfold num_Lcm_1.f num_common.f
  unfold lstep at hb ⊢
  rw [wu64 n, show n % 18446744073709551616 = n by omega, hk]
  by_cases c : m > 512
  · rw [if_pos c, if_pos c]
  · rw [if_neg c, if_neg c]
    rw [if_neg c] at hb
    by_cases d : n > 512
    · rw [if_pos d, if_pos d]
    · rw [if_neg d, if_neg d]
      rw [if_neg d] at hb
      simp only [Option.bind_some]
      rw [if_neg (by omega)]
      have h4 : m.toNat / Nat.gcd m.toNat n.toNat ≤ m.toNat := Nat.div_le_self _ _
      have e3 : Int.tdiv m ((Nat.gcd m.toNat n.toNat : Nat) : Int) = ((m.toNat / Nat.gcd m.toNat n.toNat : Nat) : Int) := by
        rw [Int.tdiv_eq_ediv_of_nonneg (by omega)]
        conv => lhs; lhs; rw [← e1]
        simp
      rw [e3]
      clear e3 hk
      generalize m.toNat / Nat.gcd m.toNat n.toNat = q at *
      have e4 : (q : Int) * n = ((q * n.toNat : Nat) : Int) := by rw [Int.natCast_mul, e2]
      rw [wu64 (q : Int), show (q : Int) % 18446744073709551616 = q by omega, e4, wu64]
      congr 1
      omega
def lout (m : Int) : Int × Int := if m > 512 then (0, 3) else (m, 0)
def num_Lcm.f (l : List Int) : Option (Int × Int) :=
  if l.length ≤ 9223372036854775806 ∧ (∀ x ∈ l, x ≤ 9223372036854775807) then (if ∃ x ∈ l, x < 1 then some (0, 1) else some (lout (l.foldl lstep 1))) else none
theorem lfold_bd (l : List Int) : ∀ m, 1 ≤ m → m ≤ 262144 → (∀ x ∈ l, 1 ≤ x) → 1 ≤ l.foldl lstep m ∧ l.foldl lstep m ≤ 262144 := by
  induction l with
  | nil => intro m h h' _; exact ⟨h, h'⟩
  | cons a l ih =>
    intro m h h' hl
    have := lstep_bd h (hl a List.mem_cons_self)
    exact ih _ this.1 this.2 (fun x hx => hl x (List.mem_cons_of_mem _ hx))
def Ones (l : List Int) (k : Nat) : Prop := ∀ j, j < k → 1 ≤ rd l (j : Int)
theorem Ones.step {l : List Int} {k : Nat} (h : Ones l k) (h1 : ¬ rd l (k : Int) < 1) : Ones l (k + 1) := by
  intro j hj
  by_cases e : j = k
  · subst e; omega
  · exact h j (by omega)
theorem Ones.all {l : List Int} (h : Ones l l.length) : ∀ x ∈ l, 1 ≤ x := by
  intro x hx
  obtain ⟨j, hj, rfl⟩ := List.mem_iff_getElem.1 hx
  have := h j hj
  simpa [rd, hj] using this
def LcmPost (l : List Int) (r1 r2 : Int) : Prop := (∃ x ∈ l, x < 1) → (r1 = 0 ∧ r2 = 1)
set_option maxHeartbeats 4000000 in
set_option maxRecDepth 100000 in
theorem num_Lcm.calls (A0 : Option Addr) (c0 : Nat) (l0 : List Int) (r1 r2 : Int) (w : World) (hr0 : Kd.C (Kd.int .i64) w A0 l0.length l0) (hc0 : l0.length ≤ c0) (h : num_Lcm.f l0 = some (r1, r2)) :
    Calls Try.prog 28 #[.slice A0 l0.length c0] w fun e w' => e = .returned (.tuple #[.int .i64 r1, .int .i64 r2]) ∧ Drawn0 w w' := by
  unfold num_Lcm.f at h
  split at h
  case isFalse => cases h
  rename_i hb
  obtain ⟨hl, hw⟩ := hb
  have HLow : Aside0 ((∃ x ∈ l0, x < 1) → r1 = 0 ∧ r2 = 1) := ⟨fun hx => by rw [if_pos hx] at h; cases h; exact ⟨rfl, rfl⟩⟩
  have HHigh : Aside0 (¬ (∃ x ∈ l0, x < 1) → lout (l0.foldl lstep 1) = (r1, r2)) := ⟨fun hx => by rw [if_neg hx] at h; exact Option.some.inj h⟩
  have F := Aside0.mk (fun W (hr : Kd.C (Kd.int .i64) W A0 l0.length l0) (ho : ∀ x ∈ l0, 1 ≤ x) => fold_Lcm lstep (fun a => 1 ≤ a ∧ a ≤ 262144) A0 c0 l0 1 W hr hc0 hl ⟨by omega, by omega⟩
    (fun a n ha hn => lstep_bd ha.1 (ho n hn))
    (fun a n W' ha hn => by
      obtain ⟨k, hk⟩ := lstep_f ha.1 ha.2 (ho n hn) (hw n hn)
      exact num_Lcm_1.calls k a n (lstep a n) W' hk))
  have HL := Aside0.mk hl
  have HR0 := Aside0.mk hr0
  have HC0 := Aside0.mk hc0
  clear hr0 hc0 h hw hl
  go_enter Try.func28, Try.ntmps28
  go_wp2
  go_loopw [9] (fun i wr => ∃ (k : Nat), i = .int .i64 k ∧ Aside0 (k ≤ l0.length) ∧ Aside0 (Ones l0 k) ∧ Drawn0 w wr) (fun i _ => l0.length - (intOf i).toNat)
  case atStart => exact ⟨0, rfl, ⟨Nat.zero_le _⟩, ⟨fun j hj => by omega⟩, Drawn0.refl _⟩
  case round =>
    obtain ⟨k, rfl, HK, HO, ⟨m1, rfl⟩⟩ := hrel
    by_cases c2 : k < l0.length
    · have hk : ((k : Nat) : Int) < (l0.length : Int) := by omega
      have c2b0 : decide (((k : Nat) : Int) < (l0.length : Int)) = true := decide_eq_true hk
      obtain ⟨ad, e, hx⟩ := Kd.at_int HR0.out (k : Int) (by omega) hk
      cases e
      rw [Int.toNat_natCast] at hx
      have c2b1 : decide (k < l0.length) = true := decide_eq_true c2
      have hmem : rd l0 (k : Int) ∈ l0 := by simp [rd, c2]
      have HC2 := Aside0.mk c2
      have hkb : ((k : Nat) : Int) + 1 ≤ 9223372036854775807 := by have := HL.out; omega
      by_cases c3 : rd l0 (k : Int) < 1
      · obtain ⟨rfl, rfl⟩ := HLow.out ⟨_, hmem, c3⟩
        have c3b0 : decide (rd l0 (k : Int) < 1) = true := decide_eq_true c3
        clear c2 hmem c3
        go_wp2
        go_ret2
        exact ⟨rfl, by repeat (first | exact Drawn0.refl _ | apply Drawn0.step)⟩
      · have A2 := Aside0.mk (HO.out.step c3)
        have c3b0 : decide (rd l0 (k : Int) < 1) = false := decide_eq_false c3
        clear c2 hmem c3
        go_wp2
        go_roundw
        case rel => exact ⟨k + 1, by go_num, ⟨HC2.out⟩, A2, by repeat (first | exact Drawn0.refl _ | apply Drawn0.step)⟩
        case measure => have := HC2.out; simp [intOf]; omega
    · have c2b0 : decide (((k : Nat) : Int) < (l0.length : Int)) = false := decide_eq_false (by omega)
      have c2b1 : decide (k < l0.length) = false := decide_eq_false c2
      have e : k = l0.length := by have := HK.out; omega
      have HA : Aside0 (∀ x ∈ l0, 1 ≤ x) := ⟨by have := HO.out; rw [e] at this; exact this.all⟩
      have HE := Aside0.mk (HHigh.out (fun ⟨x, hx, h1⟩ => by have := HA.out x hx; omega))
      have hbd := lfold_bd l0 1 (by omega) (by omega) HA.out
      generalize l0.foldl lstep 1 = m at *
      clear e c2 HO HK
      by_cases c3 : m > 512
      · have e1 : lout m = (0, 3) := by unfold lout; rw [if_pos c3]
        rw [e1] at HE
        obtain ⟨rfl, rfl⟩ := Prod.mk.inj HE.out
        have b1 : decide ((512 : Int) < m) = true := decide_eq_true c3
        clear e1 HE c3 hbd
        go_wp2_with (first | (go_at_call 33; (with_reducible refine (F.out _ (Kd.C_drewN HR0.out m1) HA.out).mono ?_); rintro e w' ⟨rfl, ⟨nd, rfl⟩⟩))
        go_ret2
        exact ⟨rfl, by repeat (first | exact Drawn0.refl _ | apply Drawn0.step)⟩
      · have e1 : lout m = (m, 0) := by unfold lout; rw [if_neg c3]
        rw [e1] at HE
        obtain ⟨rfl, rfl⟩ := Prod.mk.inj HE.out
        have b1 : decide ((512 : Int) < m) = false := decide_eq_false c3
        obtain ⟨b2, b3⟩ := hbd
        clear e1 HE c3
        go_wp2_with (first | (go_at_call 33; (with_reducible refine (F.out _ (Kd.C_drewN HR0.out m1) HA.out).mono ?_); rintro e w' ⟨rfl, ⟨nd, rfl⟩⟩))
        go_ret2
        exact ⟨rfl, by repeat (first | exact Drawn0.refl _ | apply Drawn0.step)⟩

end Go.Proofs.Ytimjibbjbfmkoaa.Man
