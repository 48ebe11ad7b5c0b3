/- The plain law behind CondCompares, and the walk in the form that the row asks for. -/
import Derived.Test.YtcakhbhjdpplcaaLpB
import Derived.Test.YtcakhbhjdpplcaaCl
namespace Go.Proofs.Ytcakhbhjdpplcaa.Lp
open Go.RowKit Go.Proofs.Ytcakhbhjdpplcaa.Aa Go.Proofs.Ytcakhbhjdpplcaa.Man Go.Proofs.Ytcakhbhjdpplcaa.Nr Go.Proofs.Ytcakhbhjdpplcaa.Cq Go.Proofs.Ytcakhbhjdpplcaa.Cc Go.Proofs.Ytcakhbhjdpplcaa.Cl Go.Proofs.YtcakhbhjdpplcaaW.PrintWords Go.Proofs.YtcakhbhjdpplcaaW.PrintLast
set_option linter.unusedVariables false
set_option linter.unusedSimpArgs false
def cm (a b : Int) : Int := if a < b then -1 else if a > b then 1 else 0
def ord : List Int → List Int → Int
  | x :: xs, y :: ys => if cm x y = 0 then ord xs ys else cm x y
  | _, _ => 0
theorem cm_swap (a b : Int) : cm b a = -cm a b := by unfold cm; omega
theorem cm_zero (a b : Int) : cm a b = 0 ↔ a = b := by unfold cm; omega
theorem cm_mem (a b : Int) : cm a b = -1 ∨ cm a b = 0 ∨ cm a b = 1 := by unfold cm; omega
theorem ord_swap : ∀ l m : List Int, ord m l = -ord l m
  | [], [] => rfl
  | [], _ :: _ => rfl
  | _ :: _, [] => rfl
  | x :: xs, y :: ys => by
    simp only [ord]
    rw [ord_swap xs ys, cm_swap x y]
    by_cases h : cm x y = 0
    · simp [h]
    · rw [if_neg h, if_neg (by omega)]
theorem ord_zero : ∀ l m : List Int, m.length = l.length → (ord l m = 0 ↔ l = m)
  | [], [], _ => by simp [ord]
  | [], _ :: _, h => by simp at h
  | _ :: _, [], h => by simp at h
  | x :: xs, y :: ys, h => by
    simp only [ord, List.cons.injEq]
    have hl : ys.length = xs.length := by simpa using h
    by_cases e : cm x y = 0
    · rw [if_pos e, ord_zero xs ys hl]
      simp [(cm_zero x y).1 e]
    · rw [if_neg e]
      have : x ≠ y := fun h' => e ((cm_zero x y).2 h')
      simp [e, this]
theorem ord_mem : ∀ l m : List Int, ord l m = -1 ∨ ord l m = 0 ∨ ord l m = 1
  | [], [] => by simp [ord]
  | [], _ :: _ => by simp [ord]
  | _ :: _, [] => by simp [ord]
  | x :: xs, y :: ys => by
    simp only [ord]
    split
    · exact ord_mem xs ys
    · exact cm_mem x y
theorem ord_snoc : ∀ (l m : List Int) (a b : Int), m.length = l.length → ord (l ++ [a]) (m ++ [b]) = if ord l m = 0 then cm a b else ord l m
  | [], [], a, b, _ => by simp only [List.nil_append, ord, if_true]; split <;> simp_all
  | [], _ :: _, _, _, h => by simp at h
  | _ :: _, [], _, _, h => by simp at h
  | x :: xs, y :: ys, a, b, h => by
    have hl : ys.length = xs.length := by simpa using h
    have e1 : ord (x :: xs) (y :: ys) = if cm x y = 0 then ord xs ys else cm x y := by simp only [ord]
    have e2 : ord (x :: xs ++ [a]) (y :: ys ++ [b]) = if cm x y = 0 then ord (xs ++ [a]) (ys ++ [b]) else cm x y := by simp only [List.cons_append, ord]
    rw [e2, ord_snoc xs ys a b hl]
    by_cases e : cm x y = 0
    · rw [if_pos e] at e1 ⊢
      rw [e1]
    · rw [if_neg e] at e1 ⊢
      rw [e1, if_neg e]
theorem cmp_int (a b : Int) : cmp_Compare_int.f a b = some (cm a b) := by
  unfold cmp_Compare_int.f cmp_isNaN_int.f cm
  simp only [bne_self_eq_false, Option.bind_some, Bool.false_eq_true, if_false]
  split
  · rfl
  · split <;> rfl
theorem or_int (a b : Int) (k : Nat) (hk : 3 ≤ k) : cmp_Or_int.f k [a, b] = some (if a = 0 then b else a) := by
  obtain ⟨k, rfl⟩ : ∃ m, k = m + 3 := ⟨k - 3, by omega⟩
  unfold cmp_Or_int.f
  simp only [cmp_Or_int.l0, List.length_cons, List.length_nil, Nat.reduceAdd, Int.cast_ofNat_Int, Int.reduceLT, Int.reduceLE, if_true, Int.zero_add]
  have e1 : wrap64 1 = 1 := w64 (by omega) (by omega)
  have e2 : wrap64 (1 + 1) = 2 := w64 (n := 1 + 1) (by omega) (by omega)
  have r0 : rd [a, b] 0 = a := rfl
  have r1 : rd [a, b] 1 = b := rfl
  rw [e1, e2, r0, r1]
  by_cases h : a = 0
  · rw [if_pos h, if_pos h]
    by_cases h2 : b = 0
    · simp [h2]
    · simp [h2]
  · rw [if_neg h, if_neg h]
theorem slices_l0 (l m : List Int) (hm : l.length ≤ maxLen) (hlm : m.length = l.length) : ∀ (d k i : Nat), i ≤ l.length → l.length - i = d → d < k →
    slices_Compare_int_int.l0 k l m l (l.length : Int) (i : Int) = some (ord (l.drop i) (m.drop i)) := by
  have hM : maxLen = 9223372036854775807 := by decide
  intro d
  induction d with
  | zero =>
    intro k i h0 hd hk
    obtain ⟨k, rfl⟩ : ∃ m, k = m + 1 := ⟨k - 1, by omega⟩
    simp only [slices_Compare_int_int.l0]
    rw [if_neg (by omega), if_neg (by omega), List.drop_eq_nil_of_le (by omega), List.drop_eq_nil_of_le (by omega)]
    rfl
  | succ d ih =>
    intro k i h0 hd hk
    obtain ⟨k, rfl⟩ : ∃ m, k = m + 1 := ⟨k - 1, by omega⟩
    have hlt : i < l.length := by omega
    have hlt2 : i < m.length := by omega
    simp only [slices_Compare_int_int.l0, cmp_int, Option.bind_some]
    rw [if_pos (by omega), if_pos (by omega), if_pos (by omega), if_neg (by omega), if_pos (by omega), rd_nat l i hlt, rd_nat m i hlt2, List.drop_eq_getElem_cons hlt, List.drop_eq_getElem_cons hlt2]
    simp only [ord]
    by_cases e : cm l[i] m[i] = 0
    · rw [if_pos e, if_pos e, w64 (by omega) (by omega)]
      have := ih k (i + 1) (by omega) (by omega) (by omega)
      rw [Int.natCast_succ] at this
      exact this
    · rw [if_neg e, if_neg e]
theorem order_l0 (l m : List Int) (hm : l.length ≤ maxLen) (hlm : m.length = l.length) : ∀ (d k i : Nat), i ≤ l.length → l.length - i = d → d < k →
    headlandref02_Order.l0 k l m (l.length : Int) (i : Int) = some (ord (l.drop i) (m.drop i)) := by
  have hM : maxLen = 9223372036854775807 := by decide
  intro d
  induction d with
  | zero =>
    intro k i h0 hd hk
    obtain ⟨k, rfl⟩ : ∃ m, k = m + 1 := ⟨k - 1, by omega⟩
    simp only [headlandref02_Order.l0]
    rw [if_neg (by omega), List.drop_eq_nil_of_le (by omega), List.drop_eq_nil_of_le (by omega)]
    rfl
  | succ d ih =>
    intro k i h0 hd hk
    obtain ⟨k, rfl⟩ : ∃ m, k = m + 1 := ⟨k - 1, by omega⟩
    have hlt : i < l.length := by omega
    have hlt2 : i < m.length := by omega
    simp only [headlandref02_Order.l0]
    rw [if_pos (by omega), if_pos (by omega), if_pos (by omega), if_pos (by omega), rd_nat l i hlt, rd_nat m i hlt2, List.drop_eq_getElem_cons hlt, List.drop_eq_getElem_cons hlt2]
    simp only [ord]
    by_cases e1 : l[i] < m[i]
    · have c : cm l[i] m[i] = -1 := by unfold cm; omega
      rw [if_pos e1, if_neg (by omega), c]
    · rw [if_neg e1]
      by_cases e2 : l[i] > m[i]
      · have c : cm l[i] m[i] = 1 := by unfold cm; omega
        rw [if_pos e2, if_neg (by omega), c]
      · have c : cm l[i] m[i] = 0 := by unfold cm; omega
        rw [if_neg e2, if_pos c, w64 (by omega) (by omega)]
        have := ih k (i + 1) (by omega) (by omega) (by omega)
        rw [Int.natCast_succ] at this
        exact this
theorem same_l0c (l m : List Int) (a b : Int) (hm : l.length ≤ maxLen) (hlm : m.length = l.length) : ∀ (d k i : Nat), i ≤ l.length → l.length - i = d → d < k →
    headlandref02_Same.l0 k (l.length : Int) (i : Int) l a m b = some (decide (l.drop i = m.drop i)) := by
  have hM : maxLen = 9223372036854775807 := by decide
  intro d
  induction d with
  | zero =>
    intro k i h0 hd hk
    obtain ⟨k, rfl⟩ : ∃ m, k = m + 1 := ⟨k - 1, by omega⟩
    simp only [headlandref02_Same.l0]
    rw [if_neg (by omega), List.drop_eq_nil_of_le (by omega), List.drop_eq_nil_of_le (by omega)]
    rfl
  | succ d ih =>
    intro k i h0 hd hk
    obtain ⟨k, rfl⟩ : ∃ m, k = m + 1 := ⟨k - 1, by omega⟩
    have hlt : i < l.length := by omega
    have hlt2 : i < m.length := by omega
    simp only [headlandref02_Same.l0]
    rw [if_pos (by omega), if_pos (by omega), if_pos (by omega), if_pos (by omega), rd_nat l i hlt, rd_nat m i hlt2, List.drop_eq_getElem_cons hlt, List.drop_eq_getElem_cons hlt2]
    by_cases e : l[i] = m[i]
    · rw [if_pos e, w64 (by omega) (by omega)]
      have := ih k (i + 1) (by omega) (by omega) (by omega)
      rw [Int.natCast_succ] at this
      rw [this]
      simp only [List.cons.injEq, e, true_and]
    · rw [if_neg e]
      simp only [List.cons.injEq, e, false_and, decide_false]
theorem same_c {l m : List Int} (a b : Int) (hm : l.length ≤ maxLen) (hlm : m.length = l.length) {k : Nat} (hk : l.length + 1 < k) : headlandref02_Same.f k l a m b = some (decide (l = m ∧ a = b)) := by
  obtain ⟨k, rfl⟩ : ∃ m, k = m + 1 := ⟨k - 1, by omega⟩
  unfold headlandref02_Same.f
  rw [if_pos (by omega)]
  simp only [headlandref02_Same.j0]
  by_cases e : a = b
  · have e' : (a != b) = false := by simp [e]
    rw [e', if_neg (by simp)]
    have := same_l0c l m a b hm hlm l.length k 0 (by omega) (by omega) (by omega)
    rw [List.drop_zero, List.drop_zero] at this
    simp only [e, and_true]
    rw [e] at this
    exact this
  · have e' : (a != b) = true := by simp [e]
    rw [e', if_pos rfl]
    simp [e]
theorem or3_int (a b c : Int) (k : Nat) (hk : 4 ≤ k) : cmp_Or_int.f k [a, b, c] = some (if a = 0 then (if b = 0 then c else b) else a) := by
  obtain ⟨k, rfl⟩ : ∃ m, k = m + 4 := ⟨k - 4, by omega⟩
  unfold cmp_Or_int.f
  simp only [cmp_Or_int.l0, List.length_cons, List.length_nil, Nat.reduceAdd, Int.cast_ofNat_Int, Int.reduceLT, Int.reduceLE, if_true, Int.zero_add]
  have e1 : wrap64 1 = 1 := w64 (by omega) (by omega)
  have e2 : wrap64 (1 + 1) = 2 := w64 (n := 1 + 1) (by omega) (by omega)
  have e3 : wrap64 (2 + 1) = 3 := w64 (n := 2 + 1) (by omega) (by omega)
  have r0 : rd [a, b, c] 0 = a := rfl
  have r1 : rd [a, b, c] 1 = b := rfl
  have r2 : rd [a, b, c] 2 = c := rfl
  rw [e1, e2, e3, r0, r1, r2]
  by_cases h : a = 0
  · rw [if_pos h, if_pos h]
    by_cases h2 : b = 0
    · by_cases h3 : c = 0
      · simp [h2, h3]
      · simp [h2, h3]
    · simp [h2]
  · rw [if_neg h, if_neg h]
/-- The rank of a kind. -/
def rk (c : Int) : Int := if c = 1 then 0 else if c = 0 then 1 else 2
theorem rank_valid {c M : Int} {l : List Int} {K : Int} (h : condB c M l K = true) : rank.f c = some (rk c) ∧ (c = 0 ∨ c = 1 ∨ c = 2) := by
  simp only [condB, Bool.and_eq_true, Bool.or_eq_true, decide_eq_true_eq] at h
  rcases h.2 with ⟨h0 | h0, _⟩ | ⟨h0, _⟩ <;> subst h0 <;> exact ⟨rfl, by omega⟩
theorem rrank (c : Int) : headlandref03_rank.f c = some (rk c) := by
  unfold headlandref03_rank.f rk
  split
  · rfl
  · split <;> rfl
def cmpV (c1 M1 : Int) (l1 : List Int) (K1 c2 M2 : Int) (l2 : List Int) (K2 : Int) : Int :=
  if cm (rk c1) (rk c2) = 0 then (if cm M1 M2 = 0 then (if ord l1 l2 = 0 then cm K1 K2 else ord l1 l2) else cm M1 M2) else cm (rk c1) (rk c2)
def cmpQ (c1 M1 : Int) (l1 : List Int) (K1 c2 M2 : Int) (l2 : List Int) (K2 : Int) : Int × Int :=
  if condB c1 M1 l1 K1 = true ∧ condB c2 M2 l2 K2 = true then (if l2.length = l1.length then (cmpV c1 M1 l1 K1 c2 M2 l2 K2, 0) else (0, 2)) else (0, 1)
theorem lincmp (l m : List Int) (a b : Int) (h1 : valB l a = true) (h2 : valB m b = true) (k : Nat) (hk : 60 ≤ k) : lin_Compare.f k l a m b = some (if m.length = l.length then (if ord l m = 0 then cm a b else ord l m, 0) else (0, 2)) := by
  have hM : maxLen = 9223372036854775807 := by decide
  have hl : l.length ≤ 12 := ((valB_iff l a).1 h1).2.1
  have hm : m.length ≤ 12 := ((valB_iff m b).1 h2).2.1
  unfold lin_Compare.f
  rw [valid_aa a (by omega) (by omega), valid_aa b (by omega) (by omega)]
  obtain ⟨k, rfl⟩ : ∃ m, k = m + 1 := ⟨k - 1, by omega⟩
  simp only [Option.bind_some, lin_Compare.j0, cmp_int]
  by_cases h3 : m.length = l.length
  · have e := slices_l0 l m (by omega) h3 l.length k 0 (by omega) (by omega) (by omega)
    rw [List.drop_zero, List.drop_zero] at e
    have e' : slices_Compare_int_int.f k l m = some (ord l m) := e
    have h4 : (l.length : Int) = (m.length : Int) := by omega
    simp only [h1, h2, h3, e', Bool.not_true, Bool.false_eq_true, if_false, if_true, Option.bind_some, or_int _ _ k (by omega)]
  · have h4 : ¬ (l.length : Int) = (m.length : Int) := by omega
    simp only [h1, h2, h3, h4, Bool.not_true, Bool.false_eq_true, if_false, if_true]
theorem refcmp (l m : List Int) (a b : Int) (h12 : l.length ≤ 12) (h3 : m.length = l.length) (k : Nat) (hk : 60 ≤ k) : headlandref02_Cmp.f k l a m b = some (if ord l m = 0 then cm a b else ord l m) := by
  have hM : maxLen = 9223372036854775807 := by decide
  have e := order_l0 (l ++ [a]) (m ++ [b]) (by simp; omega) (by simp; omega) (l ++ [a]).length k 0 (by omega) (by omega) (by simp; omega)
  rw [List.drop_zero, List.drop_zero, ord_snoc l m a b h3] at e
  have e' : headlandref02_Order.f k (l ++ [a]) (m ++ [b]) = some (if ord l m = 0 then cm a b else ord l m) := e
  unfold headlandref02_Cmp.f
  simp only [Option.bind_some, List.nil_append, List.length_nil, List.length_cons, Nat.zero_add]
  rw [if_pos (by omega), if_pos (by omega), if_pos (by omega), if_pos (by omega), e']
  rfl
theorem condB_val {c M : Int} {l : List Int} {K : Int} (h : condB c M l K = true) : valB l K = true := by
  simp only [condB, Bool.and_eq_true] at h
  exact h.1
theorem compare_c (c1 M1 : Int) (l1 : List Int) (K1 c2 M2 : Int) (l2 : List Int) (K2 : Int) (hl : l1.length ≤ maxLen) (hm : l2.length ≤ maxLen) (k : Nat) (hk : 80 + (l1.length + l2.length) ≤ k) :
    cond_Compare.f k c1 M1 l1 K1 c2 M2 l2 K2 = some (cmpQ c1 M1 l1 K1 c2 M2 l2 K2) := by
  obtain ⟨k, rfl⟩ : ∃ m, k = m + 1 := ⟨k - 1, by omega⟩
  unfold cond_Compare.f cmpQ
  rw [cvalid c1 M1 K1 hl (by omega), cvalid c2 M2 K2 hm (by omega)]
  simp only [Option.bind_some, cond_Compare.j0, cmp_int]
  by_cases h1 : condB c1 M1 l1 K1 = true
  · by_cases h2 : condB c2 M2 l2 K2 = true
    · rw [lincmp l1 l2 K1 K2 (condB_val h1) (condB_val h2) k (by omega), (rank_valid h1).1, (rank_valid h2).1]
      by_cases h3 : l2.length = l1.length
      · simp only [h1, h2, h3, Bool.not_true, Bool.false_eq_true, if_false, if_true, and_self, Option.bind_some, or3_int _ _ _ k (by omega), cmpV]
      · simp [h1, h2, h3]
    · simp only [Bool.not_eq_true] at h2
      simp [h1, h2]
  · simp only [Bool.not_eq_true] at h1
    simp [h1]
theorem compare_r (c1 M1 : Int) (l1 : List Int) (K1 c2 M2 : Int) (l2 : List Int) (K2 : Int) (hl : l1.length ≤ maxLen) (hm : l2.length ≤ maxLen) (k : Nat) (hk : 80 + (l1.length + l2.length) ≤ k) :
    headlandref03_Compare.f k c1 M1 l1 K1 c2 M2 l2 K2 = some (cmpQ c1 M1 l1 K1 c2 M2 l2 K2) := by
  have hM : maxLen = 9223372036854775807 := by decide
  obtain ⟨k, rfl⟩ : ∃ m, k = m + 1 := ⟨k - 1, by omega⟩
  unfold headlandref03_Compare.f cmpQ
  rw [rvalid c1 M1 K1 hl (by omega), rvalid c2 M2 K2 hm (by omega)]
  simp only [Option.bind_some, headlandref03_Compare.j0]
  by_cases h1 : condB c1 M1 l1 K1 = true
  · by_cases h2 : condB c2 M2 l2 K2 = true
    · by_cases h3 : l2.length = l1.length
      · have h4 : (l1.length : Int) = (l2.length : Int) := by omega
        have e := order_l0 [rk c1, M1] [rk c2, M2] (by simp; omega) rfl 2 k 0 (by simp) rfl (by omega)
        have e' : headlandref02_Order.f k [rk c1, M1] [rk c2, M2] = some (ord [rk c1, M1] [rk c2, M2]) := e
        have eo : ord [rk c1, M1] [rk c2, M2] = if cm (rk c1) (rk c2) = 0 then (if cm M1 M2 = 0 then 0 else cm M1 M2) else cm (rk c1) (rk c2) := by simp only [ord]
        have h12 : l1.length ≤ 12 := ((valB_iff l1 K1).1 (condB_val h1)).2.1
        unfold headlandref03_Cmp.f
        rw [rrank, rrank]
        simp only [Option.bind_some]
        rw [e', eo, refcmp l1 l2 K1 K2 h12 h3 k (by omega)]
        simp only [h1, h2, h3, h4, Bool.not_true, Bool.false_eq_true, if_false, if_true, and_self, Option.bind_some, cmpV]
        by_cases q1 : cm (rk c1) (rk c2) = 0
        · by_cases q2 : cm M1 M2 = 0
          · simp [q1, q2]
          · simp [q1, q2]
        · simp [q1]
      · have h4 : ¬ (l1.length : Int) = (l2.length : Int) := by omega
        simp [h1, h2, h3, h4]
    · simp only [Bool.not_eq_true] at h2
      simp [h1, h2]
  · simp only [Bool.not_eq_true] at h1
    simp [h1]
theorem cmpV_swap (c1 M1 : Int) (l1 : List Int) (K1 c2 M2 : Int) (l2 : List Int) (K2 : Int) : cmpV c2 M2 l2 K2 c1 M1 l1 K1 = -cmpV c1 M1 l1 K1 c2 M2 l2 K2 := by
  unfold cmpV
  rw [cm_swap (rk c1) (rk c2), cm_swap M1 M2, ord_swap l1 l2, cm_swap K1 K2]
  by_cases q1 : cm (rk c1) (rk c2) = 0
  · rw [if_pos q1, if_pos (by omega)]
    by_cases q2 : cm M1 M2 = 0
    · rw [if_pos q2, if_pos (by omega)]
      by_cases q3 : ord l1 l2 = 0
      · rw [if_pos q3, if_pos (by omega)]
      · rw [if_neg q3, if_neg (by omega)]
    · rw [if_neg q2, if_neg (by omega)]
  · rw [if_neg q1, if_neg (by omega)]
theorem cmpV_mem (c1 M1 : Int) (l1 : List Int) (K1 c2 M2 : Int) (l2 : List Int) (K2 : Int) : cmpV c1 M1 l1 K1 c2 M2 l2 K2 = -1 ∨ cmpV c1 M1 l1 K1 c2 M2 l2 K2 = 0 ∨ cmpV c1 M1 l1 K1 c2 M2 l2 K2 = 1 := by
  unfold cmpV
  split
  · split
    · split
      · exact cm_mem _ _
      · exact ord_mem _ _
    · exact cm_mem _ _
  · exact cm_mem _ _
theorem cmpV_zero {c1 M1 : Int} {l1 : List Int} {K1 c2 M2 : Int} {l2 : List Int} {K2 : Int} (h1 : c1 = 0 ∨ c1 = 1 ∨ c1 = 2) (h2 : c2 = 0 ∨ c2 = 1 ∨ c2 = 2) (h3 : l2.length = l1.length) :
    cmpV c1 M1 l1 K1 c2 M2 l2 K2 = 0 ↔ (c1 = c2 ∧ M1 = M2 ∧ l1 = l2 ∧ K1 = K2) := by
  have hr : rk c1 = rk c2 ↔ c1 = c2 := by rcases h1 with rfl | rfl | rfl <;> rcases h2 with rfl | rfl | rfl <;> decide
  unfold cmpV
  by_cases q1 : cm (rk c1) (rk c2) = 0
  · rw [if_pos q1]
    have e1 : c1 = c2 := hr.1 ((cm_zero _ _).1 q1)
    by_cases q2 : cm M1 M2 = 0
    · rw [if_pos q2]
      have e2 : M1 = M2 := (cm_zero _ _).1 q2
      by_cases q3 : ord l1 l2 = 0
      · rw [if_pos q3, cm_zero]
        have e3 : l1 = l2 := (ord_zero l1 l2 h3).1 q3
        simp [e1, e2, e3]
      · rw [if_neg q3]
        have : l1 ≠ l2 := fun h => q3 ((ord_zero l1 l2 h3).2 h)
        simp [q3, this]
    · rw [if_neg q2]
      have : M1 ≠ M2 := fun h => q2 ((cm_zero _ _).2 h)
      simp [q2, this]
  · rw [if_neg q1]
    have : c1 ≠ c2 := fun h => q1 ((cm_zero _ _).2 (hr.2 h))
    simp [q1, this]
theorem same_q (c1 M1 : Int) (l1 : List Int) (K1 c2 M2 : Int) (l2 : List Int) (K2 : Int) (hl : l1.length ≤ maxLen) (h3 : l2.length = l1.length) (k : Nat) (hk : l1.length + 1 < k) :
    headlandref03_Same.f k c1 M1 l1 K1 c2 M2 l2 K2 = some (decide (c1 = c2 ∧ M1 = M2 ∧ l1 = l2 ∧ K1 = K2)) := by
  unfold headlandref03_Same.f
  rw [same_c K1 K2 hl h3 hk]
  by_cases e1 : c1 = c2
  · by_cases e2 : M1 = M2
    · simp [e1, e2]
    · simp [e1, e2]
  · simp [e1]
theorem CondCompares (c1 M1 : Int) (l1 : List Int) (K1 c2 M2 : Int) (l2 : List Int) (K2 : Int) (hl : l1.length ≤ maxLen) (hm : l2.length ≤ maxLen) :
    headlandlaw03_CondCompares.f (80 + (l1.length + l2.length)) c1 M1 l1 K1 c2 M2 l2 K2 = some true := by
  have hM : maxLen = 9223372036854775807 := by decide
  have e0 : wrap64 0 = 0 := w64 (by omega) (by omega)
  unfold headlandlaw03_CondCompares.f
  rw [compare_c c1 M1 l1 K1 c2 M2 l2 K2 hl hm _ (by omega), compare_r c1 M1 l1 K1 c2 M2 l2 K2 hl hm _ (by omega), compare_c c2 M2 l2 K2 c1 M1 l1 K1 hm hl _ (by omega), headlandlaw03_awake.ge]
  simp only [Option.bind_some]
  by_cases h : condB c1 M1 l1 K1 = true ∧ condB c2 M2 l2 K2 = true
  · have h' : condB c2 M2 l2 K2 = true ∧ condB c1 M1 l1 K1 = true := ⟨h.2, h.1⟩
    by_cases h3 : l2.length = l1.length
    · have e1 : cmpQ c1 M1 l1 K1 c2 M2 l2 K2 = (cmpV c1 M1 l1 K1 c2 M2 l2 K2, 0) := by unfold cmpQ; rw [if_pos h, if_pos h3]
      have e2 : cmpQ c2 M2 l2 K2 c1 M1 l1 K1 = (-cmpV c1 M1 l1 K1 c2 M2 l2 K2, 0) := by unfold cmpQ; rw [if_pos h', if_pos h3.symm, cmpV_swap]
      have hw : wrap64 (-cmpV c1 M1 l1 K1 c2 M2 l2 K2) = -cmpV c1 M1 l1 K1 c2 M2 l2 K2 := by
        have := cmpV_mem c1 M1 l1 K1 c2 M2 l2 K2
        exact w64 (by omega) (by omega)
      have hz := cmpV_zero (K1 := K1) (K2 := K2) (M1 := M1) (M2 := M2) (rank_valid h.1).2 (rank_valid h.2).2 h3
      rw [e1, e2, same_q c1 M1 l1 K1 c2 M2 l2 K2 hl h3 _ (by omega)]
      simp only [hw, if_true, Option.bind_some]
      rw [if_pos]
      by_cases hq : c1 = c2 ∧ M1 = M2 ∧ l1 = l2 ∧ K1 = K2
      · rw [hz.2 hq]
        simp [hq]
      · have : ¬ cmpV c1 M1 l1 K1 c2 M2 l2 K2 = 0 := fun h => hq (hz.1 h)
        rw [beq_eq_false_iff_ne.2 this, decide_eq_false hq]
        rfl
    · have h3' : ¬ l1.length = l2.length := fun h => h3 h.symm
      have e1 : cmpQ c1 M1 l1 K1 c2 M2 l2 K2 = (0, 2) := by unfold cmpQ; rw [if_pos h, if_neg h3]
      have e2 : cmpQ c2 M2 l2 K2 c1 M1 l1 K1 = (0, 2) := by unfold cmpQ; rw [if_pos h', if_neg h3']
      rw [e1, e2]
      simp [e0]
  · have h' : ¬ (condB c2 M2 l2 K2 = true ∧ condB c1 M1 l1 K1 = true) := fun q => h ⟨q.2, q.1⟩
    have e1 : cmpQ c1 M1 l1 K1 c2 M2 l2 K2 = (0, 1) := by unfold cmpQ; rw [if_neg h]
    have e2 : cmpQ c2 M2 l2 K2 c1 M1 l1 K1 = (0, 1) := by unfold cmpQ; rw [if_neg h']
    rw [e1, e2]
    simp [e0]
theorem walkCompares (c0 m0 : Int) (a0 : Option Addr) (len0 cap0 : Nat) (z0 : List Int) (b0 : Int) (c1 m1 : Int) (a1 : Option Addr) (len1 cap1 : Nat) (z1 : List Int) (b1 : Int) (w : World) (v0 : (Lit.int .i64 c0).wf = true) (u0 : (Lit.int .i64 m0).wf = true)
    (w0 : (a0 = none ∧ len0 = 0 ∧ cap0 = 0 ∧ z0 = []) ∨ ∃ x, a0 = some x ∧ len0 ≤ cap0 ∧ cap0 ≤ maxLen ∧ z0.length = cap0 ∧ (∀ i, i < z0.length → w.cell? (x.add i) = some (.int .i64 (z0.getD i 0))) ∧ ∀ n ∈ z0, (Lit.int .i64 n).wf = true) (x0 : (Lit.int .i64 b0).wf = true) (v1 : (Lit.int .i64 c1).wf = true) (u1 : (Lit.int .i64 m1).wf = true)
    (w1 : (a1 = none ∧ len1 = 0 ∧ cap1 = 0 ∧ z1 = []) ∨ ∃ x, a1 = some x ∧ len1 ≤ cap1 ∧ cap1 ≤ maxLen ∧ z1.length = cap1 ∧ (∀ i, i < z1.length → w.cell? (x.add i) = some (.int .i64 (z1.getD i 0))) ∧ ∀ n ∈ z1, (Lit.int .i64 n).wf = true) (x1 : (Lit.int .i64 b1).wf = true) :
    Calls Try.prog 7 #[.agg #[.int .i64 c0, .int .i64 m0, .slice a0 len0 cap0, .int .i64 b0], .agg #[.int .i64 c1, .int .i64 m1, .slice a1 len1 cap1, .int .i64 b1]] w fun e w' => e = .returned (.bool true) ∧ Below w.heap.size w w' := by
  obtain ⟨l0, rfl, hr0, hm0, hw0, hc0⟩ := ReadsInt.ofRowC w0
  obtain ⟨l1, rfl, hr1, hm1, hw1, hc1⟩ := ReadsInt.ofRowC w1
  exact headlandlaw03_CondCompares.calls (80 + (l0.length + l1.length)) c0 m0 a0 cap0 l0 b0 c1 m1 a1 cap1 l1 b1 true w (Kd.C_of_reads (d := (0 : Int)) (h1 := fun _ => rfl) hr0) hc0 (Kd.C_of_reads (d := (0 : Int)) (h1 := fun _ => rfl) hr1) hc1 (CondCompares c0 m0 l0 b0 c1 m1 l1 b1 hm0 hm1)
end Go.Proofs.Ytcakhbhjdpplcaa.Lp
