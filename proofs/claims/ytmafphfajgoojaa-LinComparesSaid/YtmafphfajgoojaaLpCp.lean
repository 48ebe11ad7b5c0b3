/- The plain law behind LinCompares, and the walk in the form that the row asks for. -/
import Derived.Test.YtmafphfajgoojaaLpBase
import Derived.Test.YtmafphfajgoojaaCp
namespace Go.Proofs.Ytmafphfajgoojaa.Lp
open Go.RowKit Go.Proofs.YtmafphfajgoojaaW.PrintWords Go.Proofs.YtmafphfajgoojaaW.PrintLast
set_option linter.unusedVariables false
set_option linter.unusedSimpArgs false
def cm (a b : Int) : Int := if a < b then -1 else if a > b then 1 else 0
def ord : List Int → List Int → Int
  | x :: xs, y :: ys => if cm x y = 0 then ord xs ys else cm x y
  | _, _ => 0
theorem cm_swap (a b : Int) : cm b a = -cm a b := by unfold cm; omega
theorem cm_zero (a b : Int) : cm a b = 0 ↔ a = b := by unfold cm; omega
theorem cm_mem (a b : Int) : cm a b = -1 ∨ cm a b = 0 ∨ cm a b = 1 := by unfold cm; omega
theorem ord_swap : ∀ l m : List Int, ord m l = -ord l m
  | [], [] => rfl
  | [], _ :: _ => rfl
  | _ :: _, [] => rfl
  | x :: xs, y :: ys => by
    simp only [ord]
    rw [ord_swap xs ys, cm_swap x y]
    by_cases h : cm x y = 0
    · simp [h]
    · rw [if_neg h, if_neg (by omega)]
theorem ord_zero : ∀ l m : List Int, m.length = l.length → (ord l m = 0 ↔ l = m)
  | [], [], _ => by simp [ord]
  | [], _ :: _, h => by simp at h
  | _ :: _, [], h => by simp at h
  | x :: xs, y :: ys, h => by
    simp only [ord, List.cons.injEq]
    have hl : ys.length = xs.length := by simpa using h
    by_cases e : cm x y = 0
    · rw [if_pos e, ord_zero xs ys hl]
      simp [(cm_zero x y).1 e]
    · rw [if_neg e]
      have : x ≠ y := fun h' => e ((cm_zero x y).2 h')
      simp [e, this]
theorem ord_mem : ∀ l m : List Int, ord l m = -1 ∨ ord l m = 0 ∨ ord l m = 1
  | [], [] => by simp [ord]
  | [], _ :: _ => by simp [ord]
  | _ :: _, [] => by simp [ord]
  | x :: xs, y :: ys => by
    simp only [ord]
    split
    · exact ord_mem xs ys
    · exact cm_mem x y
theorem ord_snoc : ∀ (l m : List Int) (a b : Int), m.length = l.length → ord (l ++ [a]) (m ++ [b]) = if ord l m = 0 then cm a b else ord l m
  | [], [], a, b, _ => by simp only [List.nil_append, ord, if_true]; split <;> simp_all
  | [], _ :: _, _, _, h => by simp at h
  | _ :: _, [], _, _, h => by simp at h
  | x :: xs, y :: ys, a, b, h => by
    have hl : ys.length = xs.length := by simpa using h
    have e1 : ord (x :: xs) (y :: ys) = if cm x y = 0 then ord xs ys else cm x y := by simp only [ord]
    have e2 : ord (x :: xs ++ [a]) (y :: ys ++ [b]) = if cm x y = 0 then ord (xs ++ [a]) (ys ++ [b]) else cm x y := by simp only [List.cons_append, ord]
    rw [e2, ord_snoc xs ys a b hl]
    by_cases e : cm x y = 0
    · rw [if_pos e] at e1 ⊢
      rw [e1]
    · rw [if_neg e] at e1 ⊢
      rw [e1, if_neg e]
theorem cmp_int (a b : Int) : Cp.cmp_Compare_int.f a b = some (cm a b) := by
  unfold Cp.cmp_Compare_int.f Cp.cmp_isNaN_int.f cm
  simp only [bne_self_eq_false, Option.bind_some, Bool.false_eq_true, if_false]
  split
  · rfl
  · split <;> rfl
theorem or_int (a b : Int) (k : Nat) (hk : 3 ≤ k) : Cp.cmp_Or_int.f k [a, b] = some (if a = 0 then b else a) := by
  obtain ⟨k, rfl⟩ : ∃ m, k = m + 3 := ⟨k - 3, by omega⟩
  unfold Cp.cmp_Or_int.f
  simp only [Cp.cmp_Or_int.l0, List.length_cons, List.length_nil, Nat.reduceAdd, Int.cast_ofNat_Int, Int.reduceLT, Int.reduceLE, if_true, Int.zero_add]
  have e1 : wrap64 1 = 1 := w64 (by omega) (by omega)
  have e2 : wrap64 (1 + 1) = 2 := w64 (n := 1 + 1) (by omega) (by omega)
  have r0 : rd [a, b] 0 = a := rfl
  have r1 : rd [a, b] 1 = b := rfl
  rw [e1, e2, r0, r1]
  by_cases h : a = 0
  · rw [if_pos h, if_pos h]
    by_cases h2 : b = 0
    · simp [h2]
    · simp [h2]
  · rw [if_neg h, if_neg h]
theorem slices_l0 (l m : List Int) (hm : l.length ≤ maxLen) (hlm : m.length = l.length) : ∀ (d k i : Nat), i ≤ l.length → l.length - i = d → d < k →
    Cp.slices_Compare_int_int.l0 k l m l (l.length : Int) (i : Int) = some (ord (l.drop i) (m.drop i)) := by
  have hM : maxLen = 9223372036854775807 := by decide
  intro d
  induction d with
  | zero =>
    intro k i h0 hd hk
    obtain ⟨k, rfl⟩ : ∃ m, k = m + 1 := ⟨k - 1, by omega⟩
    simp only [Cp.slices_Compare_int_int.l0]
    rw [if_neg (by omega), if_neg (by omega), List.drop_eq_nil_of_le (by omega), List.drop_eq_nil_of_le (by omega)]
    rfl
  | succ d ih =>
    intro k i h0 hd hk
    obtain ⟨k, rfl⟩ : ∃ m, k = m + 1 := ⟨k - 1, by omega⟩
    have hlt : i < l.length := by omega
    have hlt2 : i < m.length := by omega
    simp only [Cp.slices_Compare_int_int.l0, cmp_int, Option.bind_some]
    rw [if_pos (by omega), if_pos (by omega), if_pos (by omega), if_neg (by omega), if_pos (by omega), rd_nat l i hlt, rd_nat m i hlt2, List.drop_eq_getElem_cons hlt, List.drop_eq_getElem_cons hlt2]
    simp only [ord]
    by_cases e : cm l[i] m[i] = 0
    · rw [if_pos e, if_pos e, w64 (by omega) (by omega)]
      have := ih k (i + 1) (by omega) (by omega) (by omega)
      rw [Int.natCast_succ] at this
      exact this
    · rw [if_neg e, if_neg e]
theorem order_l0 (l m : List Int) (hm : l.length ≤ maxLen) (hlm : m.length = l.length) : ∀ (d k i : Nat), i ≤ l.length → l.length - i = d → d < k →
    Cp.headlandref02_Order.l0 k l m (l.length : Int) (i : Int) = some (ord (l.drop i) (m.drop i)) := by
  have hM : maxLen = 9223372036854775807 := by decide
  intro d
  induction d with
  | zero =>
    intro k i h0 hd hk
    obtain ⟨k, rfl⟩ : ∃ m, k = m + 1 := ⟨k - 1, by omega⟩
    simp only [Cp.headlandref02_Order.l0]
    rw [if_neg (by omega), List.drop_eq_nil_of_le (by omega), List.drop_eq_nil_of_le (by omega)]
    rfl
  | succ d ih =>
    intro k i h0 hd hk
    obtain ⟨k, rfl⟩ : ∃ m, k = m + 1 := ⟨k - 1, by omega⟩
    have hlt : i < l.length := by omega
    have hlt2 : i < m.length := by omega
    simp only [Cp.headlandref02_Order.l0]
    rw [if_pos (by omega), if_pos (by omega), if_pos (by omega), if_pos (by omega), rd_nat l i hlt, rd_nat m i hlt2, List.drop_eq_getElem_cons hlt, List.drop_eq_getElem_cons hlt2]
    simp only [ord]
    by_cases e1 : l[i] < m[i]
    · have c : cm l[i] m[i] = -1 := by unfold cm; omega
      rw [if_pos e1, if_neg (by omega), c]
    · rw [if_neg e1]
      by_cases e2 : l[i] > m[i]
      · have c : cm l[i] m[i] = 1 := by unfold cm; omega
        rw [if_pos e2, if_neg (by omega), c]
      · have c : cm l[i] m[i] = 0 := by unfold cm; omega
        rw [if_neg e2, if_pos c, w64 (by omega) (by omega)]
        have := ih k (i + 1) (by omega) (by omega) (by omega)
        rw [Int.natCast_succ] at this
        exact this
/-- The order that both sides answer with. -/
def cmpR (l m : List Int) (a b : Int) : Int × Int := if valB l a = true ∧ valB m b = true then (if m.length = l.length then (if ord l m = 0 then cm a b else ord l m, 0) else (0, 2)) else (0, 1)
theorem compare_lin (l m : List Int) (a b : Int) (hl : l.length ≤ maxLen) (hm : m.length ≤ maxLen) (k : Nat) (hk : 60 + (l.length + m.length) ≤ k) : Cp.lin_Compare.f k l a m b = some (cmpR l m a b) := by
  unfold Cp.lin_Compare.f cmpR
  rw [valid_sc a hl (by omega), valid_sc b hm (by omega)]
  obtain ⟨k, rfl⟩ : ∃ m, k = m + 1 := ⟨k - 1, by omega⟩
  simp only [Option.bind_some, Cp.lin_Compare.j0, cmp_int]
  by_cases h1 : valB l a = true
  · by_cases h2 : valB m b = true
    · by_cases h3 : m.length = l.length
      · have e := slices_l0 l m hl h3 l.length k 0 (by omega) (by omega) (by omega)
        rw [List.drop_zero, List.drop_zero] at e
        have e' : Cp.slices_Compare_int_int.f k l m = some (ord l m) := e
        have h4 : (l.length : Int) = (m.length : Int) := by omega
        simp only [h1, h2, h3, e', Bool.not_true, Bool.false_eq_true, if_false, if_true, and_self, Option.bind_some, or_int _ _ k (by omega)]
      · have h4 : ¬ (l.length : Int) = (m.length : Int) := by omega
        simp only [h1, h2, h3, h4, Bool.not_true, Bool.false_eq_true, if_false, if_true, and_self]
    · simp only [Bool.not_eq_true] at h2
      simp only [h1, h2, Bool.not_false, Bool.false_eq_true, and_false, if_false, if_true]
  · simp only [Bool.not_eq_true] at h1
    simp only [h1, Bool.false_eq_true, false_and, if_false, if_true]
theorem compare_ref (l m : List Int) (a b : Int) (hl : l.length ≤ maxLen) (hm : m.length ≤ maxLen) (k : Nat) (hk : 60 + (l.length + m.length) ≤ k) : Cp.headlandref02_Compare.f k l a m b = some (cmpR l m a b) := by
  have hM : maxLen = 9223372036854775807 := by decide
  have hboth : Cp.headlandref02_both.f k l a m b = some (if valB l a = true ∧ valB m b = true then (if m.length = l.length then 0 else 2) else 1) := by
    obtain ⟨k, rfl⟩ : ∃ m, k = m + 1 := ⟨k - 1, by omega⟩
    unfold Cp.headlandref02_both.f
    rw [valid_bs a hl (by omega), valid_bs b hm (by omega)]
    simp only [Option.bind_some, Cp.headlandref02_both.j0]
    cases valB l a <;> cases valB m b <;> simp
    by_cases e : m.length = l.length
    · simp [e]
    · have h' : ¬ ((l.length : Int) = (m.length : Int)) := by omega
      simp [e, h']
  unfold Cp.headlandref02_Compare.f cmpR
  rw [hboth]
  simp only [Option.bind_some]
  by_cases h1 : valB l a = true ∧ valB m b = true
  · rw [if_pos h1, if_pos h1]
    by_cases h3 : m.length = l.length
    · rw [if_pos h3, if_pos h3, if_pos rfl]
      have h12 : l.length ≤ 12 := ((valB_iff l a).1 h1.1).2.1
      have e := order_l0 (l ++ [a]) (m ++ [b]) (by simp; omega) (by simp; omega) (l ++ [a]).length k 0 (by omega) (by omega) (by simp; omega)
      rw [List.drop_zero, List.drop_zero, ord_snoc l m a b h3] at e
      have e' : Cp.headlandref02_Order.f k (l ++ [a]) (m ++ [b]) = some (if ord l m = 0 then cm a b else ord l m) := e
      unfold Cp.headlandref02_Cmp.f
      simp only [Option.bind_some, List.nil_append, List.length_nil, List.length_cons, Nat.zero_add]
      rw [if_pos (by omega), if_pos (by omega), if_pos (by omega), if_pos (by omega), e']
      rfl
    · rw [if_neg h3, if_neg h3]
      rfl
  · rw [if_neg h1, if_neg h1]
    rfl
theorem same_l0c (l m : List Int) (a b : Int) (hm : l.length ≤ maxLen) (hlm : m.length = l.length) : ∀ (d k i : Nat), i ≤ l.length → l.length - i = d → d < k →
    Bs.headlandref02_Same.l0 k (l.length : Int) (i : Int) l a m b = some (decide (l.drop i = m.drop i)) := by
  have hM : maxLen = 9223372036854775807 := by decide
  intro d
  induction d with
  | zero =>
    intro k i h0 hd hk
    obtain ⟨k, rfl⟩ : ∃ m, k = m + 1 := ⟨k - 1, by omega⟩
    simp only [Bs.headlandref02_Same.l0]
    rw [if_neg (by omega), List.drop_eq_nil_of_le (by omega), List.drop_eq_nil_of_le (by omega)]
    rfl
  | succ d ih =>
    intro k i h0 hd hk
    obtain ⟨k, rfl⟩ : ∃ m, k = m + 1 := ⟨k - 1, by omega⟩
    have hlt : i < l.length := by omega
    have hlt2 : i < m.length := by omega
    simp only [Bs.headlandref02_Same.l0]
    rw [if_pos (by omega), if_pos (by omega), if_pos (by omega), if_pos (by omega), rd_nat l i hlt, rd_nat m i hlt2, List.drop_eq_getElem_cons hlt, List.drop_eq_getElem_cons hlt2]
    by_cases e : l[i] = m[i]
    · rw [if_pos e, w64 (by omega) (by omega)]
      have := ih k (i + 1) (by omega) (by omega) (by omega)
      rw [Int.natCast_succ] at this
      rw [this]
      simp only [List.cons.injEq, e, true_and]
    · rw [if_neg e]
      simp only [List.cons.injEq, e, false_and, decide_false]
theorem same_c {l m : List Int} (a b : Int) (hm : l.length ≤ maxLen) (hlm : m.length = l.length) {k : Nat} (hk : l.length + 1 < k) : Bs.headlandref02_Same.f k l a m b = some (decide (l = m ∧ a = b)) := by
  obtain ⟨k, rfl⟩ : ∃ m, k = m + 1 := ⟨k - 1, by omega⟩
  unfold Bs.headlandref02_Same.f
  rw [if_pos (by omega)]
  simp only [Bs.headlandref02_Same.j0]
  by_cases e : a = b
  · have e' : (a != b) = false := by simp [e]
    rw [e', if_neg (by simp)]
    have := same_l0c l m a b hm hlm l.length k 0 (by omega) (by omega) (by omega)
    rw [List.drop_zero, List.drop_zero] at this
    simp only [e, and_true]
    rw [e] at this
    exact this
  · have e' : (a != b) = true := by simp [e]
    rw [e', if_pos rfl]
    simp [e]
theorem LinCompares (l m : List Int) (a b : Int) (hl : l.length ≤ maxLen) (hm : m.length ≤ maxLen) : Cp.headlandlaw02_LinCompares.f (60 + (l.length + m.length)) l a m b = some true := by
  have hM : maxLen = 9223372036854775807 := by decide
  unfold Cp.headlandlaw02_LinCompares.f
  rw [compare_lin l m a b hl hm _ (by omega), compare_ref l m a b hl hm _ (by omega), compare_lin m l b a hm hl _ (by omega), awake_ge]
  simp only [Option.bind_some]
  by_cases h1 : valB l a = true ∧ valB m b = true
  · have h1' : valB m b = true ∧ valB l a = true := ⟨h1.2, h1.1⟩
    by_cases h3 : m.length = l.length
    · have e1 : cmpR l m a b = (if ord l m = 0 then cm a b else ord l m, 0) := by unfold cmpR; rw [if_pos h1, if_pos h3]
      have e2 : cmpR m l b a = (-(if ord l m = 0 then cm a b else ord l m), 0) := by
        unfold cmpR
        rw [if_pos h1', if_pos h3.symm, ord_swap l m, cm_swap a b]
        by_cases e : ord l m = 0
        · rw [if_pos e, if_pos (by omega)]
        · rw [if_neg e, if_neg (by omega)]
      have hw : ∀ n : Int, n = -1 ∨ n = 0 ∨ n = 1 → wrap64 (-n) = -n := by intro n hn; exact w64 (by omega) (by omega)
      have hmem : (if ord l m = 0 then cm a b else ord l m) = -1 ∨ (if ord l m = 0 then cm a b else ord l m) = 0 ∨ (if ord l m = 0 then cm a b else ord l m) = 1 := by
        split
        · exact cm_mem a b
        · exact ord_mem l m
      have hz : (if ord l m = 0 then cm a b else ord l m) = 0 ↔ (l = m ∧ a = b) := by
        rw [← ord_zero l m h3, ← cm_zero a b]
        by_cases e : ord l m = 0
        · simp [e]
        · simp [e]
      rw [e1, e2, same_c a b hl h3 (by omega)]
      simp only [hw _ hmem, if_true, Option.bind_some]
      rw [if_pos]
      by_cases hq : l = m ∧ a = b
      · rw [hz.2 hq]
        simp [hq]
      · have : ¬ (if ord l m = 0 then cm a b else ord l m) = 0 := fun h => hq (hz.1 h)
        simp only [hq, decide_false, beq_iff_eq, beq_eq_false_iff_ne, ne_eq]
        exact this
    · have h3' : ¬ l.length = m.length := fun h => h3 h.symm
      have e1 : cmpR l m a b = (0, 2) := by unfold cmpR; rw [if_pos h1, if_neg h3]
      have e2 : cmpR m l b a = (0, 2) := by unfold cmpR; rw [if_pos h1', if_neg h3']
      rw [e1, e2]
      have e0 : wrap64 0 = 0 := w64 (by omega) (by omega)
      simp [e0]
  · have h1' : ¬ (valB m b = true ∧ valB l a = true) := fun h => h1 ⟨h.2, h.1⟩
    have e1 : cmpR l m a b = (0, 1) := by unfold cmpR; rw [if_neg h1]
    have e2 : cmpR m l b a = (0, 1) := by unfold cmpR; rw [if_neg h1']
    rw [e1, e2]
    have e0 : wrap64 0 = 0 := w64 (by omega) (by omega)
    simp [e0]
theorem walkCompares (a0 : Option Addr) (len0 cap0 : Nat) (z0 : List Int) (b0 : Int) (a1 : Option Addr) (len1 cap1 : Nat) (z1 : List Int) (b1 : Int) (w : World)
    (w0 : (a0 = none ∧ len0 = 0 ∧ cap0 = 0 ∧ z0 = []) ∨ ∃ x, a0 = some x ∧ len0 ≤ cap0 ∧ cap0 ≤ maxLen ∧ z0.length = cap0 ∧ (∀ i, i < z0.length → w.cell? (x.add i) = some (.int .i64 (z0.getD i 0))) ∧ ∀ n ∈ z0, (Lit.int .i64 n).wf = true) (x0 : (Lit.int .i64 b0).wf = true)
    (w1 : (a1 = none ∧ len1 = 0 ∧ cap1 = 0 ∧ z1 = []) ∨ ∃ x, a1 = some x ∧ len1 ≤ cap1 ∧ cap1 ≤ maxLen ∧ z1.length = cap1 ∧ (∀ i, i < z1.length → w.cell? (x.add i) = some (.int .i64 (z1.getD i 0))) ∧ ∀ n ∈ z1, (Lit.int .i64 n).wf = true) (x1 : (Lit.int .i64 b1).wf = true) :
    Calls Try.prog 6 #[.agg #[.slice a0 len0 cap0, .int .i64 b0], .agg #[.slice a1 len1 cap1, .int .i64 b1]] w fun e w' => e = .returned (.bool true) ∧ Below w.heap.size w w' := by
  obtain ⟨l0, rfl, hr0, hm0, hw0, hc0⟩ := ReadsInt.ofRowC w0
  obtain ⟨l1, rfl, hr1, hm1, hw1, hc1⟩ := ReadsInt.ofRowC w1
  exact Cp.headlandlaw02_LinCompares.calls (60 + (l0.length + l1.length)) a0 cap0 l0 b0 a1 cap1 l1 b1 true w (Kd.C_of_reads (d := (0 : Int)) (h1 := fun _ => rfl) hr0) hc0 (Kd.C_of_reads (d := (0 : Int)) (h1 := fun _ => rfl) hr1) hc1 (LinCompares l0 l1 b0 b1 hm0 hm1)
end Go.Proofs.Ytmafphfajgoojaa.Lp
