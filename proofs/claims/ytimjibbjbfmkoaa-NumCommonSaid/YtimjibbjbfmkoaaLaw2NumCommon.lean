/- The plain law behind NumCommon: Gcd and Lcm answer as the reference for all lists; no condition. -/
import Derived.Test.YtimjibbjbfmkoaaLw1
namespace Go.Proofs.Ytimjibbjbfmkoaa.NumCommon
open Go.RowKit Go.Proofs.Ytimjibbjbfmkoaa Go.Proofs.YtimjibbjbfmkoaaW.PrintWords Go.Proofs.YtimjibbjbfmkoaaW.PrintLast
set_option linter.unusedVariables false
set_option linter.unusedSimpArgs false

theorem gfold_dvd (l : List Int) : ∀ g, Man.gfold g l ∣ g ∧ ∀ x ∈ l, Man.gfold g l ∣ x.natAbs := by
  induction l with
  | nil => intro g; exact ⟨Nat.dvd_refl _, fun x hx => by cases hx⟩
  | cons a l ih =>
    intro g
    obtain ⟨h1, h2⟩ := ih (Nat.gcd g a.natAbs)
    refine ⟨Nat.dvd_trans h1 (Nat.gcd_dvd_left _ _), fun x hx => ?_⟩
    rcases List.mem_cons.1 hx with rfl | hx
    · exact Nat.dvd_trans h1 (Nat.gcd_dvd_right _ _)
    · exact h2 x hx
theorem dvd_gfold (c : Nat) (l : List Int) : ∀ g, c ∣ g → (∀ x ∈ l, c ∣ x.natAbs) → c ∣ Man.gfold g l := by
  induction l with
  | nil => intro g h _; exact h
  | cons a l ih => intro g h hl; exact ih _ (Nat.dvd_gcd h (hl a List.mem_cons_self)) (fun x hx => hl x (List.mem_cons_of_mem _ hx))
theorem awake_at (k : Nat) (h : 12 ≤ k) : Ba.headlandlaw01_awake.f k = some true := at_rounds Ba.headlandlaw01_awake.mono h (by decide +kernel)
theorem rd_mem {l : List Int} {i : Nat} (h : i < l.length) : rd l (i : Int) ∈ l := by simp [rd, h]
theorem rd_at {l : List Int} {x : Int} (h : x ∈ l) : ∃ i, i < l.length ∧ rd l ((i : Nat) : Int) = x := by
  obtain ⟨j, hj, rfl⟩ := List.mem_iff_getElem.1 h
  exact ⟨j, hj, by simp [rd, hj]⟩
theorem rsize_eq (n : Int) (h : n.natAbs ≤ 9223372036854775808) : Ba.headlandref01_size.f n = some (n.natAbs : Int) := by
  unfold Ba.headlandref01_size.f
  split
  · rw [Man.wu64, Man.wu64]; congr 1; omega
  · rw [Man.wu64]; congr 1; omega
theorem rgcd_l1 (l : List Int) (n i : Int) (r : Int × Int) (a : Nat) : ∀ g : Nat, (∃ k, Ba.headlandref01_Gcd.l0 k (Nat.gcd g a : Nat) l n (wrap64 (i + 1)) = some r) → ∃ k, Ba.headlandref01_Gcd.l1 k g a l n i = some r := by
  induction a using Nat.strongRecOn with
  | ind a ih =>
    intro g ⟨k, h⟩
    by_cases c : a = 0
    · subst c
      refine ⟨k + 1, ?_⟩
      simp only [Ba.headlandref01_Gcd.l1]
      rw [if_pos (by simp)]
      simpa using h
    · have e : Nat.gcd a (g % a) = Nat.gcd g a := by
        rw [Nat.gcd_comm g a, Nat.gcd_rec a g, Nat.gcd_comm]
      obtain ⟨k', h'⟩ := ih (g % a) (Nat.mod_lt _ (by omega)) a ⟨k, by rw [e]; exact h⟩
      refine ⟨k' + 1, ?_⟩
      simp only [Ba.headlandref01_Gcd.l1]
      rw [if_neg (by omega), ← Int.ofNat_tmod]
      exact h'
theorem rgcd_l0 (l : List Int) (hl : l.length ≤ 9223372036854775806) (hw : ∀ x ∈ l, x.natAbs ≤ 9223372036854775808) (d : Nat) : ∀ (g i : Nat), g ≤ 9223372036854775808 → i + d = l.length →
    ∃ k, Ba.headlandref01_Gcd.l0 k g l l.length i = some (Man.gout (Man.gfold g (l.drop i))) := by
  induction d with
  | zero =>
    intro g i hg hi
    refine ⟨1, ?_⟩
    simp only [Ba.headlandref01_Gcd.l0]
    rw [if_neg (by omega), List.drop_of_length_le (by omega)]
    rw [show Man.gfold g [] = g from rfl]
    unfold Man.gout
    by_cases c : g = 9223372036854775808
    · rw [if_pos (by omega), if_pos c]
    · rw [if_neg (by omega), if_neg c, Man.w64 (by omega) (by omega)]
  | succ d ih =>
    intro g i hg hi
    have hin : i < l.length := by omega
    have hx := hw l[i] (List.getElem_mem hin)
    have hr : rd l (i : Int) = l[i] := by unfold rd; simp [hin]
    have hd : l.drop i = l[i] :: l.drop (i + 1) := List.drop_eq_getElem_cons hin
    obtain ⟨k, h⟩ := ih (Nat.gcd g l[i].natAbs) (i + 1) (Man.gcd_bd hg hx) (by omega)
    obtain ⟨k', h'⟩ := rgcd_l1 l l.length i _ l[i].natAbs g ⟨k, by rw [Man.w64 (by omega) (by omega)]; exact h⟩
    refine ⟨k' + 1, ?_⟩
    simp only [Ba.headlandref01_Gcd.l0]
    rw [if_pos (by omega), if_pos (by omega), if_pos (by omega), hr, rsize_eq _ hx]
    simp only [Option.bind_some]
    rw [h', hd]
    rfl
theorem rgcd_f (l : List Int) (hl : l.length ≤ 9223372036854775806) (hw : ∀ x ∈ l, x.natAbs ≤ 9223372036854775808) : ∃ k, Ba.headlandref01_Gcd.f k l = some (Man.gout (Man.gfold 0 l)) := by
  obtain ⟨k, h⟩ := rgcd_l0 l hl hw l.length 0 0 (by omega) (by omega)
  exact ⟨k, h⟩
def Q (a m : Int) : Prop := a ≤ 512 ∧ a ∣ m
theorem Q_step (a n m : Int) (ha : 1 ≤ a) (hn : 1 ≤ n) (h1 : 1 ≤ m) (h2 : m ≤ 512) : Q (Man.lstep a n) m ↔ Q a m ∧ n ∣ m := by
  unfold Q Man.lstep
  by_cases c : a > 512
  · rw [if_pos c]; constructor
    · intro h; omega
    · intro h; omega
  · rw [if_neg c]
    by_cases d : n > 512
    · rw [if_pos d]; constructor
      · intro h; omega
      · intro ⟨_, h⟩; have := Int.le_of_dvd (by omega) h; omega
    · rw [if_neg d]
      have e : a.toNat / Nat.gcd a.toNat n.toNat * n.toNat = Nat.lcm a.toNat n.toNat := by
        rw [Nat.lcm, Nat.mul_comm, ← Nat.mul_div_assoc _ (Nat.gcd_dvd_left _ _), Nat.mul_comm n.toNat]
      rw [e]
      have f1 : a ∣ m ↔ a.toNat ∣ m.toNat := by
        rw [← Int.ofNat_dvd, show ((a.toNat : Nat) : Int) = a by omega, show ((m.toNat : Nat) : Int) = m by omega]
      have f2 : n ∣ m ↔ n.toNat ∣ m.toNat := by
        rw [← Int.ofNat_dvd, show ((n.toNat : Nat) : Int) = n by omega, show ((m.toNat : Nat) : Int) = m by omega]
      have f3 : ((Nat.lcm a.toNat n.toNat : Nat) : Int) ∣ m ↔ Nat.lcm a.toNat n.toNat ∣ m.toNat := by
        rw [← Int.ofNat_dvd, show ((m.toNat : Nat) : Int) = m by omega]
      rw [f1, f2, f3, Nat.lcm_dvd_iff]
      constructor
      · intro ⟨_, h⟩; exact ⟨⟨by omega, h.1⟩, h.2⟩
      · intro ⟨⟨_, h⟩, h'⟩
        have := Nat.le_of_dvd (by omega) (Nat.lcm_dvd h h')
        exact ⟨by omega, h, h'⟩
theorem Q_fold (l : List Int) (m : Int) (h1 : 1 ≤ m) (h2 : m ≤ 512) : ∀ a, 1 ≤ a → (∀ x ∈ l, 1 ≤ x) → (Q (l.foldl Man.lstep a) m ↔ Q a m ∧ ∀ x ∈ l, x ∣ m) := by
  induction l with
  | nil => intro a _ _; simp
  | cons b l ih =>
    intro a ha hl
    have hb := hl b List.mem_cons_self
    rw [List.foldl_cons, ih _ (Man.lstep_bd ha hb).1 (fun x hx => hl x (List.mem_cons_of_mem _ hx)), Q_step a b m ha hb h1 h2]
    simp only [List.mem_cons, forall_eq_or_imp, and_assoc]
theorem lcm_l2 (l : List Int) (hl : l.length ≤ 9223372036854775806) (ho : ∀ x ∈ l, 1 ≤ x) (m : Int) (h1 : 1 ≤ m) (h2 : m ≤ 512) (r : Int × Int)
    (hno : ¬ (∀ x ∈ l, x ∣ m) → ∃ k, Ba.headlandref01_Lcm.l1 k l (m + 1) = some r) (d : Nat) : ∀ (i : Nat) (b : Bool), i + d = l.length → (b = true ↔ ∀ j, j < i → rd l ((j : Nat) : Int) ∣ m) →
    ∃ k r', Ba.headlandref01_Lcm.l2 k l m b l l.length i = some r' ∧ ((∀ x ∈ l, x ∣ m) → r' = (m, 0)) ∧ (¬ (∀ x ∈ l, x ∣ m) → r' = r) := by
  induction d with
  | zero =>
    intro i b hi hb
    have hall : b = true ↔ ∀ x ∈ l, x ∣ m := by
      rw [hb]
      constructor
      · intro h x hx
        obtain ⟨j, hj, rfl⟩ := rd_at hx
        exact h j (by omega)
      · intro h j hj; exact h _ (rd_mem (by omega))
    by_cases c : b = true
    · refine ⟨1, (m, 0), ?_, fun _ => rfl, fun h => absurd (hall.1 c) h⟩
      simp only [Ba.headlandref01_Lcm.l2]
      rw [if_neg (by omega), if_pos c]
    · obtain ⟨k, hk⟩ := hno (fun h => c (hall.2 h))
      refine ⟨k + 1, r, ?_, fun h => absurd (hall.2 h) c, fun _ => rfl⟩
      simp only [Ba.headlandref01_Lcm.l2]
      rw [if_neg (by omega), if_neg c, Man.w64 (by omega) (by omega)]
      exact hk
  | succ d ih =>
    intro i b hi hb
    have hin : i < l.length := by omega
    have hm := ho _ (rd_mem hin)
    have hstep : ((b && (Int.tmod m (rd l (i : Int)) == 0)) = true) ↔ ∀ j, j < i + 1 → rd l ((j : Nat) : Int) ∣ m := by
      rw [Bool.and_eq_true, beq_iff_eq, hb]
      constructor
      · intro ⟨h, h'⟩ j hj
        by_cases e : j = i
        · subst e; exact Int.dvd_of_tmod_eq_zero h'
        · exact h j (by omega)
      · intro h
        exact ⟨fun j hj => h j (by omega), Int.tmod_eq_zero_of_dvd (h i (by omega))⟩
    obtain ⟨k, r', hk, hr⟩ := ih (i + 1) _ (by omega) hstep
    refine ⟨k + 1, r', ?_, hr⟩
    simp only [Ba.headlandref01_Lcm.l2]
    rw [if_pos (by omega), if_pos (by omega), if_pos (by omega), Man.w64 (by omega) (by omega)]
    by_cases c : b = true
    · rw [if_pos c, if_neg (by omega)]; subst c; simpa using hk
    · rw [if_neg c]
      have c' : b = false := by simpa using c
      subst c'; simpa using hk
theorem lcm_l1 (l : List Int) (hl : l.length ≤ 9223372036854775806) (ho : ∀ x ∈ l, 1 ≤ x) (t : Nat) : ∀ m : Int, 1 ≤ m → m + t = 513 → (l.foldl Man.lstep 1 ≤ 512 → m ≤ l.foldl Man.lstep 1) →
    ∃ k, Ba.headlandref01_Lcm.l1 k l m = some (Man.lout (l.foldl Man.lstep 1)) := by
  induction t with
  | zero =>
    intro m h1 ht hF
    refine ⟨1, ?_⟩
    simp only [Ba.headlandref01_Lcm.l1]
    unfold Man.lout
    rw [if_neg (by omega), if_pos (by omega)]
  | succ t ih =>
    intro m h1 ht hF
    have hQ := Q_fold l m h1 (by omega) 1 (by omega) ho
    have hQ1 : Q 1 m := ⟨by omega, Int.one_dvd m⟩
    have hFb := Man.lfold_bd l 1 (by omega) (by omega) ho
    have hall : (∀ x ∈ l, x ∣ m) ↔ l.foldl Man.lstep 1 = m := by
      constructor
      · intro h
        obtain ⟨q1, q2⟩ := hQ.2 ⟨hQ1, h⟩
        have := Int.le_of_dvd (by omega) q2
        have := hF q1
        omega
      · intro h
        exact (hQ.1 ⟨by omega, by rw [h]; exact Int.dvd_refl m⟩).2
    obtain ⟨k, r', hk, hr1, hr2⟩ := lcm_l2 l hl ho m h1 (by omega) (Man.lout (l.foldl Man.lstep 1)) (fun h => ih (m + 1) (by omega) (by omega) (fun hF' => by
      have := hF hF'
      have : l.foldl Man.lstep 1 ≠ m := fun e => h (hall.2 e)
      omega)) l.length 0 true (by omega) (by simp)
    refine ⟨k + 1, ?_⟩
    simp only [Ba.headlandref01_Lcm.l1]
    rw [if_pos (by omega)]
    refine hk.trans ?_
    by_cases c : ∀ x ∈ l, x ∣ m
    · rw [hr1 c]
      have e := hall.1 c
      unfold Man.lout
      rw [if_neg (by omega), e]
    · rw [hr2 c]
theorem lcm_l0 (l : List Int) (hl : l.length ≤ 9223372036854775806) (d : Nat) : ∀ i : Nat, i + d = l.length → Man.Ones l i → ∃ k, Ba.headlandref01_Lcm.l0 k l l l.length i = some (if ∃ x ∈ l, x < 1 then (0, 1) else Man.lout (l.foldl Man.lstep 1)) := by
  induction d with
  | zero =>
    intro i hi ho
    obtain rfl : i = l.length := by omega
    have hall := ho.all
    obtain ⟨k, hk⟩ := lcm_l1 l hl hall 512 1 (by omega) (by omega) (fun _ => (Man.lfold_bd l 1 (by omega) (by omega) hall).1)
    refine ⟨k + 1, ?_⟩
    simp only [Ba.headlandref01_Lcm.l0]
    rw [if_neg (by omega), if_neg (by rintro ⟨x, hx, h⟩; have := hall x hx; omega)]
    exact hk
  | succ d ih =>
    intro i hi ho
    have hin : i < l.length := by omega
    by_cases c : rd l (i : Int) < 1
    · refine ⟨1, ?_⟩
      simp only [Ba.headlandref01_Lcm.l0]
      rw [if_pos (by omega), if_pos (by omega), if_pos (by omega), if_pos c, if_pos ⟨_, rd_mem hin, c⟩]
    · obtain ⟨k, hk⟩ := ih (i + 1) (by omega) (ho.step c)
      refine ⟨k + 1, ?_⟩
      simp only [Ba.headlandref01_Lcm.l0]
      rw [if_pos (by omega), if_pos (by omega), if_pos (by omega), if_neg c, Man.w64 (by omega) (by omega)]
      exact hk
theorem NumCommon (l : List Int) (hl : l.length ≤ 9223372036854775806) (hw : ∀ x ∈ l, -9223372036854775808 ≤ x ∧ x ≤ 9223372036854775807) : ∃ k, Lw.headlandlaw01_NumCommon.f k l = some true := by
  have hw' : ∀ x ∈ l, x.natAbs ≤ 9223372036854775808 := fun x hx => by have := hw x hx; omega
  obtain ⟨k1, h1⟩ := rgcd_f l hl hw'
  obtain ⟨k2, h2⟩ := lcm_l0 l hl l.length 0 (by omega) (fun j hj => by omega)
  have h1 := at_rounds (fun k => Ba.headlandref01_Gcd.mono l k) (show k1 ≤ k1 + k2 + 12 by omega) h1
  have h2 : Ba.headlandref01_Lcm.f k2 l = _ := h2
  have h2 := at_rounds (fun k => Ba.headlandref01_Lcm.mono l k) (show k2 ≤ k1 + k2 + 12 by omega) h2
  refine ⟨k1 + k2 + 12, ?_⟩
  unfold Lw.headlandlaw01_NumCommon.f Man.num_Gcd.f Man.num_Lcm.f
  rw [if_pos ⟨hl, hw'⟩, if_pos ⟨hl, fun x hx => (hw x hx).2⟩, h1, h2, awake_at _ (by omega)]
  split <;> simp
theorem wfb {n : Int} (h : (Lit.int .i64 n).wf = true) : -9223372036854775808 ≤ n ∧ n ≤ 9223372036854775807 := by
  simp only [Lit.wf, IntKind.min, IntKind.max, IntKind.signed, IntKind.bits, Bool.and_eq_true, decide_eq_true_eq, if_true] at h
  omega
theorem walk (a0 : Option Addr) (len0 cap0 : Nat) (z0 : List Int) (w : World) (w0 : (a0 = none ∧ len0 = 0 ∧ cap0 = 0 ∧ z0 = []) ∨ ∃ x, a0 = some x ∧ len0 ≤ cap0 ∧ cap0 ≤ maxLen ∧ z0.length = cap0 ∧ (∀ i, i < z0.length → w.cell? (x.add i) = some (.int .i64 (z0.getD i 0))) ∧ ∀ n ∈ z0, (Lit.int .i64 n).wf = true) (y0 : len0 * 8 ≤ 140737488351232) :
    Calls Try.prog 11 #[.slice a0 len0 cap0] w fun e w' => e = .returned (.bool true) ∧ Below w.heap.size w w' := by
  obtain ⟨l0, rfl, hr0, hm0, hw0, hc0⟩ := ReadsInt.ofRowC w0
  obtain ⟨k, h⟩ := NumCommon l0 (by omega) (fun x hx => by have := wfb (hw0 x hx); exact this)
  refine (Lw.headlandlaw01_NumCommon.calls k _ _ l0 true w (Kd.C_of_reads (d := (0 : Int)) (h1 := fun _ => rfl) hr0) hc0 h).mono ?_
  rintro e w' ⟨rfl, hd⟩
  exact ⟨rfl, hd.below⟩

end Go.Proofs.Ytimjibbjbfmkoaa.NumCommon
