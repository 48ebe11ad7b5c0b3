/- The plain law behind LinAdds, and the walk in the form that the row asks for. -/
import Derived.Test.YtmafphfajgoojaaLpBase
import Derived.Test.YtmafphfajgoojaaDd
namespace Go.Proofs.Ytmafphfajgoojaa.Lp
open Go.RowKit Go.Proofs.YtmafphfajgoojaaW.PrintWords Go.Proofs.YtmafphfajgoojaaW.PrintLast
set_option linter.unusedVariables false
set_option linter.unusedSimpArgs false
theorem is_dd {l : List Int} (a e : Int) (hm : l.length ≤ maxLen) {k : Nat} (hk : l.length + 1 < k) : Dd.headlandlaw02_is.f k l a e l a e = some true := by
  unfold Dd.headlandlaw02_is.f
  rw [if_pos rfl, same_refl a hm hk]
  rfl
/-- Filling a row of zeros from the left. -/
theorem fill_set (T : List Int) (i : Nat) (h : i < T.length) (v : Int) (hv : v = T[i]) : (T.take i ++ List.replicate (T.length - i) 0).set i v = T.take (i + 1) ++ List.replicate (T.length - (i + 1)) 0 := by
  subst hv
  have e : T.length - i = (T.length - (i + 1)) + 1 := by omega
  rw [List.set_append_right _ _ (by simp; omega), e, List.replicate_succ]
  have : i - (T.take i).length = 0 := by simp; omega
  rw [this, List.set_cons_zero, List.take_succ_eq_append_getElem h, List.append_assoc]
  rfl
theorem fill_len (T : List Int) (i : Nat) (h : i ≤ T.length) : (T.take i ++ List.replicate (T.length - i) 0).length = T.length := by simp; omega
theorem fill_end (T : List Int) (n : Nat) (h : T.length = n) : T.take n ++ List.replicate (T.length - n) 0 = T := by subst h; simp
theorem both_add_l0 (l m T : List Int) (hm : l.length ≤ maxLen) (hlm : m.length = l.length) (hT : T.length = l.length) (hv : ∀ i (h : i < l.length), wrap64 (l[i] + m[i]) = T[i]) : ∀ (d k i : Nat), i ≤ l.length → l.length - i = d → d < k →
    Ad.lin_both_int_Add_1.l0 k l m (T.take i ++ List.replicate (T.length - i) 0) (l.length : Int) (i : Int) = some T := by
  have hM : maxLen = 9223372036854775807 := by decide
  intro d
  induction d with
  | zero =>
    intro k i h0 hd hk
    obtain ⟨k, rfl⟩ : ∃ m, k = m + 1 := ⟨k - 1, by omega⟩
    simp only [Ad.lin_both_int_Add_1.l0]
    rw [if_neg (by omega), fill_end T i (by omega)]
  | succ d ih =>
    intro k i h0 hd hk
    obtain ⟨k, rfl⟩ : ∃ m, k = m + 1 := ⟨k - 1, by omega⟩
    have hlt : i < l.length := by omega
    simp only [Ad.lin_both_int_Add_1.l0, Ad.lin_Add_1.f, Option.bind_some]
    rw [fill_len T i (by omega), if_pos (by omega), if_pos (by omega), if_pos (by omega), if_pos (by omega), if_pos (by omega), rd_nat l i hlt, rd_nat m i (by omega), w64 (n := (i : Int) + 1) (by omega) (by omega), Int.toNat_natCast,
      fill_set T i (by omega) _ (hv i hlt)]
    have := ih k (i + 1) (by omega) (by omega) (by omega)
    rw [Int.natCast_succ] at this
    exact this
theorem both_sub_l0 (l m T : List Int) (hm : l.length ≤ maxLen) (hlm : m.length = l.length) (hT : T.length = l.length) (hv : ∀ i (h : i < l.length), wrap64 (l[i] - m[i]) = T[i]) : ∀ (d k i : Nat), i ≤ l.length → l.length - i = d → d < k →
    Ad.lin_both_int_Sub_1.l0 k l m (T.take i ++ List.replicate (T.length - i) 0) (l.length : Int) (i : Int) = some T := by
  have hM : maxLen = 9223372036854775807 := by decide
  intro d
  induction d with
  | zero =>
    intro k i h0 hd hk
    obtain ⟨k, rfl⟩ : ∃ m, k = m + 1 := ⟨k - 1, by omega⟩
    simp only [Ad.lin_both_int_Sub_1.l0]
    rw [if_neg (by omega), fill_end T i (by omega)]
  | succ d ih =>
    intro k i h0 hd hk
    obtain ⟨k, rfl⟩ : ∃ m, k = m + 1 := ⟨k - 1, by omega⟩
    have hlt : i < l.length := by omega
    simp only [Ad.lin_both_int_Sub_1.l0, Ad.lin_Sub_1.f, Option.bind_some]
    rw [fill_len T i (by omega), if_pos (by omega), if_pos (by omega), if_pos (by omega), if_pos (by omega), if_pos (by omega), rd_nat l i hlt, rd_nat m i (by omega), w64 (n := (i : Int) + 1) (by omega) (by omega), Int.toNat_natCast,
      fill_set T i (by omega) _ (hv i hlt)]
    have := ih k (i + 1) (by omega) (by omega) (by omega)
    rw [Int.natCast_succ] at this
    exact this
theorem mix_l0 (x y : Int) (l m T : List Int) (c1 c2 c3 : Int) (hm : l.length ≤ maxLen) (hlm : m.length = l.length) (hT : T.length = l.length) (hv : ∀ i (h : i < l.length), wrap64 (wrap64 (x * l[i]) + wrap64 (y * m[i])) = T[i]) : ∀ (d k i : Nat), i ≤ l.length → l.length - i = d → d < k →
    Dd.headlandref02_Mix.l0 k x y (l.length : Int) (i : Int) l c1 m c2 (T.take i ++ List.replicate (T.length - i) 0) c3 = some (T, c3) := by
  have hM : maxLen = 9223372036854775807 := by decide
  intro d
  induction d with
  | zero =>
    intro k i h0 hd hk
    obtain ⟨k, rfl⟩ : ∃ m, k = m + 1 := ⟨k - 1, by omega⟩
    simp only [Dd.headlandref02_Mix.l0]
    rw [if_neg (by omega), fill_end T i (by omega)]
  | succ d ih =>
    intro k i h0 hd hk
    obtain ⟨k, rfl⟩ : ∃ m, k = m + 1 := ⟨k - 1, by omega⟩
    have hlt : i < l.length := by omega
    simp only [Dd.headlandref02_Mix.l0]
    rw [fill_len T i (by omega), if_pos (by omega), if_pos (by omega), if_pos (by omega), if_pos (by omega), if_pos (by omega), rd_nat l i hlt, rd_nat m i (by omega), w64 (n := (i : Int) + 1) (by omega) (by omega), Int.toNat_natCast,
      fill_set T i (by omega) _ (hv i hlt)]
    have := ih k (i + 1) (by omega) (by omega) (by omega)
    rw [Int.natCast_succ] at this
    exact this
theorem mix_f (x y : Int) (l m T : List Int) (c1 c2 : Int) (h12 : l.length ≤ 12) (hlm : m.length = l.length) (hT : T.length = l.length) (hv : ∀ i (h : i < l.length), wrap64 (wrap64 (x * l[i]) + wrap64 (y * m[i])) = T[i]) (k : Nat) (hk : 60 ≤ k) :
    Dd.headlandref02_Mix.f k x l c1 y m c2 = some (T, wrap64 (wrap64 (x * c1) + wrap64 (y * c2))) := by
  have hM : maxLen = 9223372036854775807 := by decide
  unfold Dd.headlandref02_Mix.f
  rw [if_pos (by omega), if_pos (by omega), Int.toNat_natCast]
  have := mix_l0 x y l m T c1 c2 (wrap64 (wrap64 (x * c1) + wrap64 (y * c2))) (by omega) hlm hT hv l.length k 0 (by omega) (by omega) (by omega)
  rw [List.take_zero, List.nil_append, Nat.sub_zero, hT] at this
  exact this
theorem fit_same (T : List Int) (c : Int) (h : T.length ≤ 12) (k : Nat) (hk : 30 ≤ k) : ∃ r : List Int × Int × Int, Ad.lin_fit.f k T c = some r ∧ Dd.headlandref02_fit.f k T c = some r ∧ r.1.length ≤ 12 := by
  have hM : maxLen = 9223372036854775807 := by decide
  unfold Ad.lin_fit.f Dd.headlandref02_fit.f
  rw [valid_ad c (by omega) (by omega), valid_bs c (by omega) (by omega)]
  simp only [Option.bind_some]
  cases valB T c
  · exact ⟨_, rfl, rfl, by simp⟩
  · exact ⟨_, rfl, rfl, h⟩
theorem both_dd (l m : List Int) (a b : Int) (hl : l.length ≤ maxLen) (hm : m.length ≤ maxLen) (k : Nat) (hk : 60 + l.length + m.length ≤ k) :
    Dd.headlandref02_both.f k l a m b = some (if valB l a = true ∧ valB m b = true then (if l.length = m.length then 0 else 2) else 1) := by
  obtain ⟨k, rfl⟩ : ∃ m, k = m + 1 := ⟨k - 1, by omega⟩
  unfold Dd.headlandref02_both.f
  rw [valid_bs a hl (by omega), valid_bs b hm (by omega)]
  simp only [Option.bind_some, Dd.headlandref02_both.j0]
  cases valB l a <;> cases valB m b <;> simp
  by_cases e : l.length = m.length
  · simp [e]
  · have h' : ¬ ((l.length : Int) = (m.length : Int)) := by omega
    simp [e, h']
theorem add_dd (l m : List Int) (a b : Int) (hl : l.length ≤ maxLen) (hm : m.length ≤ maxLen) (k : Nat) (hk : 60 + l.length + m.length ≤ k) :
    ∃ r : List Int × Int × Int, Ad.lin_Add.f k l a m b = some r ∧ Dd.headlandref02_Add.f k l a m b = some r ∧ r.1.length ≤ 12 := by
  unfold Ad.lin_Add.f Dd.headlandref02_Add.f Ad.lin_joined_Add_1.f
  rw [valid_ad a hl (by omega), valid_ad b hm (by omega), both_dd l m a b hl hm k hk]
  obtain ⟨k, rfl⟩ : ∃ m, k = m + 1 := ⟨k - 1, by omega⟩
  simp only [Option.bind_some, Ad.lin_joined_Add_1.j0, Ad.lin_Add_1.f]
  by_cases h1 : valB l a = true
  · by_cases h2 : valB m b = true
    · by_cases h3 : l.length = m.length
      · have h12 : l.length ≤ 12 := ((valB_iff l a).1 h1).2.1
        have hb : Ad.lin_both_int_Add_1.f k l m = some (List.zipWith (fun x y => wrap64 (x + y)) l m) := by
          unfold Ad.lin_both_int_Add_1.f
          rw [if_pos (by omega), if_pos (by omega), Int.toNat_natCast]
          have := both_add_l0 l m (List.zipWith (fun x y => wrap64 (x + y)) l m) hl h3.symm (by simp [h3]) (by intro i h; simp) l.length k 0 (by omega) (by omega) (by omega)
          rw [List.take_zero, List.nil_append, Nat.sub_zero, List.length_zipWith, show min l.length m.length = l.length by omega] at this
          exact this
        have hx := mix_f 1 1 l m (List.zipWith (fun x y => wrap64 (x + y)) l m) a b h12 h3.symm (by simp [h3]) (by intro i h; simp only [List.getElem_zipWith, Int.one_mul]; unfold wrap64; omega) (k + 1) (by omega)
        obtain ⟨r, hr1, hr2, hr3⟩ := fit_same (List.zipWith (fun x y => wrap64 (x + y)) l m) (wrap64 (a + b)) (by simp; omega) k (by omega)
        have hr4 := Dd.headlandref02_fit.mono _ _ k _ hr2
        simp only [h1, h2, h3, if_true, and_self, Bool.not_true, Bool.false_eq_true, if_false, hb, hx, Option.bind_some]
        rw [show wrap64 (wrap64 (1 * a) + wrap64 (1 * b)) = wrap64 (a + b) by unfold wrap64; omega, hr1, hr4]
        exact ⟨_, rfl, rfl, hr3⟩
      · have h3' : ¬ ((l.length : Int) = (m.length : Int)) := by omega
        simp only [h1, h2, h3, h3', if_true, and_self, Bool.not_true, Bool.false_eq_true, if_false, Option.bind_some]
        exact ⟨_, rfl, rfl, by simp⟩
    · simp only [h1, h2, if_true, and_false, Bool.false_eq_true, if_false, Option.bind_some]
      exact ⟨_, rfl, rfl, by simp⟩
  · simp only [h1, if_true, false_and, Bool.false_eq_true, if_false, Option.bind_some]
    exact ⟨_, rfl, rfl, by simp⟩
theorem sub_dd (l m : List Int) (a b : Int) (hl : l.length ≤ maxLen) (hm : m.length ≤ maxLen) (k : Nat) (hk : 60 + l.length + m.length ≤ k) :
    ∃ r : List Int × Int × Int, Ad.lin_Sub.f k l a m b = some r ∧ Dd.headlandref02_Sub.f k l a m b = some r ∧ r.1.length ≤ 12 := by
  unfold Ad.lin_Sub.f Dd.headlandref02_Sub.f Ad.lin_joined_Sub_1.f
  rw [valid_ad a hl (by omega), valid_ad b hm (by omega), both_dd l m a b hl hm k hk]
  obtain ⟨k, rfl⟩ : ∃ m, k = m + 1 := ⟨k - 1, by omega⟩
  simp only [Option.bind_some, Ad.lin_joined_Sub_1.j0, Ad.lin_Sub_1.f]
  by_cases h1 : valB l a = true
  · by_cases h2 : valB m b = true
    · by_cases h3 : l.length = m.length
      · have h12 : l.length ≤ 12 := ((valB_iff l a).1 h1).2.1
        have hb : Ad.lin_both_int_Sub_1.f k l m = some (List.zipWith (fun x y => wrap64 (x - y)) l m) := by
          unfold Ad.lin_both_int_Sub_1.f
          rw [if_pos (by omega), if_pos (by omega), Int.toNat_natCast]
          have := both_sub_l0 l m (List.zipWith (fun x y => wrap64 (x - y)) l m) hl h3.symm (by simp [h3]) (by intro i h; simp) l.length k 0 (by omega) (by omega) (by omega)
          rw [List.take_zero, List.nil_append, Nat.sub_zero, List.length_zipWith, show min l.length m.length = l.length by omega] at this
          exact this
        have hx := mix_f 1 (-1) l m (List.zipWith (fun x y => wrap64 (x - y)) l m) a b h12 h3.symm (by simp [h3]) (by intro i h; simp only [List.getElem_zipWith, Int.one_mul]; unfold wrap64; omega) (k + 1) (by omega)
        obtain ⟨r, hr1, hr2, hr3⟩ := fit_same (List.zipWith (fun x y => wrap64 (x - y)) l m) (wrap64 (a - b)) (by simp; omega) k (by omega)
        have hr4 := Dd.headlandref02_fit.mono _ _ k _ hr2
        simp only [h1, h2, h3, if_true, and_self, Bool.not_true, Bool.false_eq_true, if_false, hb, hx, Option.bind_some]
        rw [show wrap64 (wrap64 (1 * a) + wrap64 (-1 * b)) = wrap64 (a - b) by unfold wrap64; omega, hr1, hr4]
        exact ⟨_, rfl, rfl, hr3⟩
      · have h3' : ¬ ((l.length : Int) = (m.length : Int)) := by omega
        simp only [h1, h2, h3, h3', if_true, and_self, Bool.not_true, Bool.false_eq_true, if_false, Option.bind_some]
        exact ⟨_, rfl, rfl, by simp⟩
    · simp only [h1, h2, if_true, and_false, Bool.false_eq_true, if_false, Option.bind_some]
      exact ⟨_, rfl, rfl, by simp⟩
  · simp only [h1, if_true, false_and, Bool.false_eq_true, if_false, Option.bind_some]
    exact ⟨_, rfl, rfl, by simp⟩
theorem same_l0g (l m : List Int) (a b : Int) (hm : l.length ≤ maxLen) (hlm : m.length = l.length) : ∀ (d k i : Nat), i ≤ l.length → l.length - i = d → d < k →
    Bs.headlandref02_Same.l0 k (l.length : Int) (i : Int) l a m b = some (decide (l.drop i = m.drop i)) := by
  have hM : maxLen = 9223372036854775807 := by decide
  intro d
  induction d with
  | zero =>
    intro k i h0 hd hk
    obtain ⟨k, rfl⟩ : ∃ m, k = m + 1 := ⟨k - 1, by omega⟩
    simp only [Bs.headlandref02_Same.l0]
    rw [if_neg (by omega), List.drop_eq_nil_of_le (by omega), List.drop_eq_nil_of_le (by omega)]
    rfl
  | succ d ih =>
    intro k i h0 hd hk
    obtain ⟨k, rfl⟩ : ∃ m, k = m + 1 := ⟨k - 1, by omega⟩
    have hlt : i < l.length := by omega
    have hlt2 : i < m.length := by omega
    simp only [Bs.headlandref02_Same.l0]
    rw [if_pos (by omega), if_pos (by omega), if_pos (by omega), if_pos (by omega), rd_nat l i hlt, rd_nat m i hlt2, List.drop_eq_getElem_cons hlt, List.drop_eq_getElem_cons hlt2]
    by_cases e : l[i] = m[i]
    · rw [if_pos e, w64 (by omega) (by omega)]
      have := ih k (i + 1) (by omega) (by omega) (by omega)
      rw [Int.natCast_succ] at this
      rw [this]
      simp only [List.cons.injEq, e, true_and]
    · rw [if_neg e]
      simp only [List.cons.injEq, e, false_and, decide_false]
theorem same_f {l m : List Int} (a b : Int) (hm : l.length ≤ maxLen) (hlm : m.length = l.length) {k : Nat} (hk : l.length + 1 < k) : Bs.headlandref02_Same.f k l a m b = some (decide (l = m ∧ a = b)) := by
  obtain ⟨k, rfl⟩ : ∃ m, k = m + 1 := ⟨k - 1, by omega⟩
  unfold Bs.headlandref02_Same.f
  rw [if_pos (by omega)]
  simp only [Bs.headlandref02_Same.j0]
  by_cases e : a = b
  · have e' : (a != b) = false := by simp [e]
    rw [e', if_neg (by simp)]
    have := same_l0g l m a b hm hlm l.length k 0 (by omega) (by omega) (by omega)
    rw [List.drop_zero, List.drop_zero] at this
    simp only [e, and_true]
    rw [e] at this
    exact this
  · have e' : (a != b) = true := by simp [e]
    rw [e', if_pos rfl]
    simp [e]
/-- What Scale does with one number: the product, and whether it fits. -/
def times (n kk : Int) : Int × Bool := if n = 0 ∨ kk = 0 then (0, true) else if fitB kk = true then (wrap64 (n * kk), fitB (wrap64 (n * kk))) else (0, false)
theorem times_f (n kk : Int) (k : Nat) (hk : 1 ≤ k) : Sc.lin_Scale_1.f k n kk = some (times n kk) := by
  obtain ⟨k, rfl⟩ : ∃ m, k = m + 1 := ⟨k - 1, by omega⟩
  unfold Sc.lin_Scale_1.f times
  simp only [Sc.lin_Scale_1.j0, fits_sc, Option.bind_some]
  by_cases h1 : n = 0
  · rw [if_pos h1, if_pos trivial, if_pos (Or.inl h1)]
  · rw [if_neg h1]
    by_cases h2 : kk = 0
    · rw [if_pos (by simp [h2]), if_pos (Or.inr h2)]
    · rw [if_neg (show ¬ (kk == 0) = true by simp [h2]), if_neg (show ¬ (n = 0 ∨ kk = 0) by simp [h1, h2])]
      cases fitB kk <;> rfl
theorem scale_l0 (kk : Int) (l T : List Int) (c : Int) (hm : l.length ≤ maxLen) (hT : T = l.map fun n => (times n kk).1) : ∀ (d k i : Nat) (ok : Bool), i ≤ l.length → l.length - i = d → d + 1 < k →
    Sc.lin_Scale.l0 k ok l (l.length : Int) (i : Int) l c kk (T.take i ++ List.replicate (T.length - i) 0) 0 = some (if ok = true ∧ ((l.drop i).all fun n => (times n kk).2) = true ∧ (times c kk).2 = true then (T, (times c kk).1, 0) else ([], 0, 3)) := by
  have hM : maxLen = 9223372036854775807 := by decide
  have hTl : T.length = l.length := by rw [hT]; simp
  intro d
  induction d with
  | zero =>
    intro k i ok h0 hd hk
    obtain ⟨k, rfl⟩ : ∃ m, k = m + 1 := ⟨k - 1, by omega⟩
    simp only [Sc.lin_Scale.l0]
    rw [if_neg (by omega), fill_end T i (by omega), List.drop_eq_nil_of_le (by omega), times_f c kk k (by omega)]
    cases ok <;> cases h : (times c kk).2 <;> simp [h]
  | succ d ih =>
    intro k i ok h0 hd hk
    obtain ⟨k, rfl⟩ : ∃ m, k = m + 1 := ⟨k - 1, by omega⟩
    have hlt : i < l.length := by omega
    have hTi : (times l[i] kk).1 = T[i]'(by omega) := by subst hT; simp
    simp only [Sc.lin_Scale.l0]
    rw [fill_len T i (by omega), if_pos (by omega), if_pos (by omega), if_pos (by omega), rd_nat l i hlt, times_f _ kk k (by omega)]
    simp only [Option.bind_some]
    rw [if_pos (by omega), w64 (n := (i : Int) + 1) (by omega) (by omega), Int.toNat_natCast, fill_set T i (by omega) _ hTi, List.drop_eq_getElem_cons hlt, List.all_cons]
    have := ih k (i + 1) (times l[i] kk).2 (by omega) (by omega) (by omega)
    have h2 := ih k (i + 1) false (by omega) (by omega) (by omega)
    rw [Int.natCast_succ] at this h2
    rw [this, h2]
    cases ok <;> cases (times l[i] kk).2 <;> simp
theorem scale_f (l : List Int) (a kk : Int) (h12 : l.length ≤ 12) (hv : valB l a = true) (k : Nat) (hk : 60 ≤ k) :
    Sc.lin_Scale.f k l a kk = some (if (l.all fun n => (times n kk).2) = true ∧ (times a kk).2 = true then (l.map fun n => (times n kk).1, (times a kk).1, 0) else ([], 0, 3)) := by
  have hM : maxLen = 9223372036854775807 := by decide
  unfold Sc.lin_Scale.f
  rw [valid_sc a (by omega) (by omega)]
  simp only [Option.bind_some]
  rw [if_pos hv, if_pos (by omega), if_pos (by omega), Int.toNat_natCast]
  have := scale_l0 kk l _ a (by omega) rfl l.length k 0 true (by omega) (by omega) (by omega)
  rw [List.take_zero, List.nil_append, Nat.sub_zero, List.drop_zero, List.length_map] at this
  rw [Int.natCast_zero] at this
  rw [this]
  simp
theorem scale_dd (l : List Int) (a kk : Int) (hl : l.length ≤ maxLen) (k : Nat) (hk : 60 + l.length ≤ k) :
    ∃ r : List Int × Int × Int, Sc.lin_Scale.f k l a kk = some r ∧ Dd.headlandref02_Scale.f k l a kk = some r ∧ r.1.length ≤ 12 := by
  have hM : maxLen = 9223372036854775807 := by decide
  by_cases hv : valB l a = true
  · have h12 : l.length ≤ 12 := ((valB_iff l a).1 hv).2.1
    rw [scale_f l a kk h12 hv k (by omega)]
    unfold Dd.headlandref02_Scale.f
    rw [valid_bs a hl (by omega)]
    simp only [Option.bind_some]
    rw [if_pos hv, if_pos (show (0 : Int) ≤ (l.length : Int) by omega), if_pos (show ((l.length : Int)).toNat ≤ 35184372088832 by omega), Int.toNat_natCast, same_f a 0 hl (by simp) (by omega)]
    simp only [Option.bind_some]
    by_cases hz : l = List.replicate l.length 0 ∧ a = 0
    · rw [if_pos (show decide (l = List.replicate l.length 0 ∧ a = 0) = true by simpa using hz)]
      have ht : ∀ x : Int, x = 0 → times x kk = (0, true) := by intro x hx; unfold times; rw [if_pos (Or.inl hx)]
      have hl0 : ∀ x ∈ l, x = 0 := fun x hx => List.eq_of_mem_replicate (hz.1 ▸ hx)
      have e1 : (l.all fun n => (times n kk).2) = true := by rw [List.all_eq_true]; intro x hx; rw [ht x (hl0 x hx)]
      have e2 : (l.map fun n => (times n kk).1) = List.replicate l.length 0 := by
        rw [List.eq_replicate_iff]
        refine ⟨by simp, ?_⟩
        intro b hb
        obtain ⟨x, hx, rfl⟩ := List.mem_map.1 hb
        rw [ht x (hl0 x hx)]
      rw [if_pos (show (l.all fun n => (times n kk).2) = true ∧ (times a kk).2 = true from ⟨e1, by rw [ht a hz.2]⟩), e2, ht a hz.2]
      exact ⟨_, rfl, rfl, by simpa using h12⟩
    · rw [if_neg (show ¬ decide (l = List.replicate l.length 0 ∧ a = 0) = true by simpa using hz), fits_bs]
      simp only [Option.bind_some]
      by_cases hf : fitB kk = true
      · rw [if_pos hf]
        have ht : ∀ x : Int, times x kk = (wrap64 (kk * x), fitB (wrap64 (kk * x))) := by
          intro x
          unfold times
          by_cases h : x = 0 ∨ kk = 0
          · rw [if_pos h]
            have : kk * x = 0 := by rcases h with h | h <;> simp [h]
            rw [this, w64 (n := 0) (by omega) (by omega)]
            rfl
          · rw [if_neg h, if_pos hf, Int.mul_comm]
        have hx := mix_f kk 0 l (List.replicate l.length 0) (l.map fun n => wrap64 (kk * n)) a 0 h12 (by simp) (by simp) (by intro i h; simp only [List.getElem_map, Int.zero_mul]; unfold wrap64; omega) k (by omega)
        rw [hx]
        simp only [Option.bind_some]
        rw [show wrap64 (wrap64 (kk * a) + wrap64 (0 * 0)) = wrap64 (kk * a) by unfold wrap64; omega]
        unfold Dd.headlandref02_fit.f
        rw [valid_bs _ (by simp; omega) (by simp; omega)]
        simp only [Option.bind_some, ht]
        have e : valB (l.map fun n => wrap64 (kk * n)) (wrap64 (kk * a)) = true ↔ ((l.all fun n => fitB (wrap64 (kk * n))) = true ∧ fitB (wrap64 (kk * a)) = true) := by
          simp [valB, h12, List.all_map, Function.comp_def]
        by_cases hc : valB (l.map fun n => wrap64 (kk * n)) (wrap64 (kk * a)) = true
        · rw [if_pos hc, if_pos (e.1 hc)]
          exact ⟨_, rfl, rfl, by simpa using h12⟩
        · rw [if_neg hc, if_neg (fun h => hc (e.2 h))]
          exact ⟨_, rfl, rfl, by simp⟩
      · rw [if_neg hf, if_neg]
        · exact ⟨_, rfl, rfl, by simp⟩
        · rintro ⟨e1, e2⟩
          have h0 : kk ≠ 0 := by rintro rfl; exact hf rfl
          have ht : ∀ x : Int, (times x kk).2 = true → x = 0 := by
            intro x hx
            unfold times at hx
            by_cases h : x = 0
            · exact h
            · rw [if_neg (by simp [h, h0]), if_neg hf] at hx
              cases hx
          exact hz ⟨List.eq_replicate_iff.2 ⟨rfl, fun x hx => ht x (List.all_eq_true.1 e1 x hx)⟩, ht a e2⟩
  · unfold Sc.lin_Scale.f Dd.headlandref02_Scale.f
    rw [valid_sc a hl (by omega), valid_bs a hl (by omega)]
    simp only [Option.bind_some]
    rw [if_neg hv, if_neg hv]
    exact ⟨_, rfl, rfl, by simp⟩
theorem LinAdds (l m : List Int) (a b kk : Int) (hl : l.length ≤ maxLen) (hm : m.length ≤ maxLen) : Dd.headlandlaw02_LinAdds.f (60 + (l.length + m.length)) l a m b kk = some true := by
  have hM : maxLen = 9223372036854775807 := by decide
  obtain ⟨r, hr1, hr2, hr3⟩ := add_dd l m a b hl hm (60 + (l.length + m.length)) (by omega)
  obtain ⟨s, hs1, hs2, hs3⟩ := sub_dd l m a b hl hm (60 + (l.length + m.length)) (by omega)
  obtain ⟨t, ht1, ht2, ht3⟩ := scale_dd l a kk hl (60 + (l.length + m.length)) (by omega)
  unfold Dd.headlandlaw02_LinAdds.f
  rw [hr1, hr2, hs1, hs2, ht1, ht2, awake_ge]
  simp only [Option.bind_some]
  rw [is_dd r.2.1 r.2.2 (by omega) (by omega), is_dd s.2.1 s.2.2 (by omega) (by omega), is_dd t.2.1 t.2.2 (by omega) (by omega)]
  simp
theorem walkAdds (a0 : Option Addr) (len0 cap0 : Nat) (z0 : List Int) (b0 : Int) (a1 : Option Addr) (len1 cap1 : Nat) (z1 : List Int) (b1 : Int) (n : Int) (w : World)
    (w0 : (a0 = none ∧ len0 = 0 ∧ cap0 = 0 ∧ z0 = []) ∨ ∃ x, a0 = some x ∧ len0 ≤ cap0 ∧ cap0 ≤ maxLen ∧ z0.length = cap0 ∧ (∀ i, i < z0.length → w.cell? (x.add i) = some (.int .i64 (z0.getD i 0))) ∧ ∀ n ∈ z0, (Lit.int .i64 n).wf = true) (x0 : (Lit.int .i64 b0).wf = true)
    (w1 : (a1 = none ∧ len1 = 0 ∧ cap1 = 0 ∧ z1 = []) ∨ ∃ x, a1 = some x ∧ len1 ≤ cap1 ∧ cap1 ≤ maxLen ∧ z1.length = cap1 ∧ (∀ i, i < z1.length → w.cell? (x.add i) = some (.int .i64 (z1.getD i 0))) ∧ ∀ n ∈ z1, (Lit.int .i64 n).wf = true) (x1 : (Lit.int .i64 b1).wf = true)
    (x2 : (Lit.int .i64 n).wf = true) :
    Calls Try.prog 5 #[.agg #[.slice a0 len0 cap0, .int .i64 b0], .agg #[.slice a1 len1 cap1, .int .i64 b1], .int .i64 n] w fun e w' => e = .returned (.bool true) ∧ Below w.heap.size w w' := by
  obtain ⟨l0, rfl, hr0, hm0, hw0, hc0⟩ := ReadsInt.ofRowC w0
  obtain ⟨l1, rfl, hr1, hm1, hw1, hc1⟩ := ReadsInt.ofRowC w1
  exact Dd.headlandlaw02_LinAdds.calls (60 + (l0.length + l1.length)) a0 cap0 l0 b0 a1 cap1 l1 b1 n true w (Kd.C_of_reads (d := (0 : Int)) (h1 := fun _ => rfl) hr0) hc0 (Kd.C_of_reads (d := (0 : Int)) (h1 := fun _ => rfl) hr1) hc1 (LinAdds l0 l1 b0 b1 n hm0 hm1)
end Go.Proofs.Ytmafphfajgoojaa.Lp
