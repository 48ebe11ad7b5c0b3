/- The plain law behind LinOwn (each function returns something at every argument), and the walk in the form that the row asks for. -/
import Derived.Test.YtmafphfajgoojaaLpBase
import Derived.Test.YtmafphfajgoojaaOw
namespace Go.Proofs.Ytmafphfajgoojaa.Lp
open Go.RowKit Go.Proofs.YtmafphfajgoojaaW.PrintWords Go.Proofs.YtmafphfajgoojaaW.PrintLast
set_option linter.unusedVariables false
set_option linter.unusedSimpArgs false
/-- Filling a row of zeros from the left. -/
theorem fill_set (T : List Int) (i : Nat) (h : i < T.length) (v : Int) (hv : v = T[i]) : (T.take i ++ List.replicate (T.length - i) 0).set i v = T.take (i + 1) ++ List.replicate (T.length - (i + 1)) 0 := by
  subst hv
  have e : T.length - i = (T.length - (i + 1)) + 1 := by omega
  rw [List.set_append_right _ _ (by simp; omega), e, List.replicate_succ]
  have : i - (T.take i).length = 0 := by simp; omega
  rw [this, List.set_cons_zero, List.take_succ_eq_append_getElem h, List.append_assoc]
  rfl
theorem fill_len (T : List Int) (i : Nat) (h : i ≤ T.length) : (T.take i ++ List.replicate (T.length - i) 0).length = T.length := by simp; omega
theorem fill_end (T : List Int) (n : Nat) (h : T.length = n) : T.take n ++ List.replicate (T.length - n) 0 = T := by subst h; simp
theorem both_add_l0 (l m T : List Int) (hm : l.length ≤ maxLen) (hlm : m.length = l.length) (hT : T.length = l.length) (hv : ∀ i (h : i < l.length), wrap64 (l[i] + m[i]) = T[i]) : ∀ (d k i : Nat), i ≤ l.length → l.length - i = d → d < k →
    Ad.lin_both_int_Add_1.l0 k l m (T.take i ++ List.replicate (T.length - i) 0) (l.length : Int) (i : Int) = some T := by
  have hM : maxLen = 9223372036854775807 := by decide
  intro d
  induction d with
  | zero =>
    intro k i h0 hd hk
    obtain ⟨k, rfl⟩ : ∃ m, k = m + 1 := ⟨k - 1, by omega⟩
    simp only [Ad.lin_both_int_Add_1.l0]
    rw [if_neg (by omega), fill_end T i (by omega)]
  | succ d ih =>
    intro k i h0 hd hk
    obtain ⟨k, rfl⟩ : ∃ m, k = m + 1 := ⟨k - 1, by omega⟩
    have hlt : i < l.length := by omega
    simp only [Ad.lin_both_int_Add_1.l0, Ad.lin_Add_1.f, Option.bind_some]
    rw [fill_len T i (by omega), if_pos (by omega), if_pos (by omega), if_pos (by omega), if_pos (by omega), if_pos (by omega), rd_nat l i hlt, rd_nat m i (by omega), w64 (n := (i : Int) + 1) (by omega) (by omega), Int.toNat_natCast,
      fill_set T i (by omega) _ (hv i hlt)]
    have := ih k (i + 1) (by omega) (by omega) (by omega)
    rw [Int.natCast_succ] at this
    exact this
theorem both_sub_l0 (l m T : List Int) (hm : l.length ≤ maxLen) (hlm : m.length = l.length) (hT : T.length = l.length) (hv : ∀ i (h : i < l.length), wrap64 (l[i] - m[i]) = T[i]) : ∀ (d k i : Nat), i ≤ l.length → l.length - i = d → d < k →
    Ad.lin_both_int_Sub_1.l0 k l m (T.take i ++ List.replicate (T.length - i) 0) (l.length : Int) (i : Int) = some T := by
  have hM : maxLen = 9223372036854775807 := by decide
  intro d
  induction d with
  | zero =>
    intro k i h0 hd hk
    obtain ⟨k, rfl⟩ : ∃ m, k = m + 1 := ⟨k - 1, by omega⟩
    simp only [Ad.lin_both_int_Sub_1.l0]
    rw [if_neg (by omega), fill_end T i (by omega)]
  | succ d ih =>
    intro k i h0 hd hk
    obtain ⟨k, rfl⟩ : ∃ m, k = m + 1 := ⟨k - 1, by omega⟩
    have hlt : i < l.length := by omega
    simp only [Ad.lin_both_int_Sub_1.l0, Ad.lin_Sub_1.f, Option.bind_some]
    rw [fill_len T i (by omega), if_pos (by omega), if_pos (by omega), if_pos (by omega), if_pos (by omega), if_pos (by omega), rd_nat l i hlt, rd_nat m i (by omega), w64 (n := (i : Int) + 1) (by omega) (by omega), Int.toNat_natCast,
      fill_set T i (by omega) _ (hv i hlt)]
    have := ih k (i + 1) (by omega) (by omega) (by omega)
    rw [Int.natCast_succ] at this
    exact this
/-- What Scale does with one number: the product, and whether it fits. -/
def times (n kk : Int) : Int × Bool := if n = 0 ∨ kk = 0 then (0, true) else if fitB kk = true then (wrap64 (n * kk), fitB (wrap64 (n * kk))) else (0, false)
theorem times_f (n kk : Int) (k : Nat) (hk : 1 ≤ k) : Sc.lin_Scale_1.f k n kk = some (times n kk) := by
  obtain ⟨k, rfl⟩ : ∃ m, k = m + 1 := ⟨k - 1, by omega⟩
  unfold Sc.lin_Scale_1.f times
  simp only [Sc.lin_Scale_1.j0, fits_sc, Option.bind_some]
  by_cases h1 : n = 0
  · rw [if_pos h1, if_pos trivial, if_pos (Or.inl h1)]
  · rw [if_neg h1]
    by_cases h2 : kk = 0
    · rw [if_pos (by simp [h2]), if_pos (Or.inr h2)]
    · rw [if_neg (show ¬ (kk == 0) = true by simp [h2]), if_neg (show ¬ (n = 0 ∨ kk = 0) by simp [h1, h2])]
      cases fitB kk <;> rfl
theorem scale_l0 (kk : Int) (l T : List Int) (c : Int) (hm : l.length ≤ maxLen) (hT : T = l.map fun n => (times n kk).1) : ∀ (d k i : Nat) (ok : Bool), i ≤ l.length → l.length - i = d → d + 1 < k →
    Sc.lin_Scale.l0 k ok l (l.length : Int) (i : Int) l c kk (T.take i ++ List.replicate (T.length - i) 0) 0 = some (if ok = true ∧ ((l.drop i).all fun n => (times n kk).2) = true ∧ (times c kk).2 = true then (T, (times c kk).1, 0) else ([], 0, 3)) := by
  have hM : maxLen = 9223372036854775807 := by decide
  have hTl : T.length = l.length := by rw [hT]; simp
  intro d
  induction d with
  | zero =>
    intro k i ok h0 hd hk
    obtain ⟨k, rfl⟩ : ∃ m, k = m + 1 := ⟨k - 1, by omega⟩
    simp only [Sc.lin_Scale.l0]
    rw [if_neg (by omega), fill_end T i (by omega), List.drop_eq_nil_of_le (by omega), times_f c kk k (by omega)]
    cases ok <;> cases h : (times c kk).2 <;> simp [h]
  | succ d ih =>
    intro k i ok h0 hd hk
    obtain ⟨k, rfl⟩ : ∃ m, k = m + 1 := ⟨k - 1, by omega⟩
    have hlt : i < l.length := by omega
    have hTi : (times l[i] kk).1 = T[i]'(by omega) := by subst hT; simp
    simp only [Sc.lin_Scale.l0]
    rw [fill_len T i (by omega), if_pos (by omega), if_pos (by omega), if_pos (by omega), rd_nat l i hlt, times_f _ kk k (by omega)]
    simp only [Option.bind_some]
    rw [if_pos (by omega), w64 (n := (i : Int) + 1) (by omega) (by omega), Int.toNat_natCast, fill_set T i (by omega) _ hTi, List.drop_eq_getElem_cons hlt, List.all_cons]
    have := ih k (i + 1) (times l[i] kk).2 (by omega) (by omega) (by omega)
    have h2 := ih k (i + 1) false (by omega) (by omega) (by omega)
    rw [Int.natCast_succ] at this h2
    rw [this, h2]
    cases ok <;> cases (times l[i] kk).2 <;> simp
theorem scale_f (l : List Int) (a kk : Int) (h12 : l.length ≤ 12) (hv : valB l a = true) (k : Nat) (hk : 60 ≤ k) :
    Sc.lin_Scale.f k l a kk = some (if (l.all fun n => (times n kk).2) = true ∧ (times a kk).2 = true then (l.map fun n => (times n kk).1, (times a kk).1, 0) else ([], 0, 3)) := by
  have hM : maxLen = 9223372036854775807 := by decide
  unfold Sc.lin_Scale.f
  rw [valid_sc a (by omega) (by omega)]
  simp only [Option.bind_some]
  rw [if_pos hv, if_pos (by omega), if_pos (by omega), Int.toNat_natCast]
  have := scale_l0 kk l _ a (by omega) rfl l.length k 0 true (by omega) (by omega) (by omega)
  rw [List.take_zero, List.nil_append, Nat.sub_zero, List.drop_zero, List.length_map] at this
  rw [Int.natCast_zero] at this
  rw [this]
  simp
theorem clone_f {l : List Int} (h12 : l.length ≤ 12) : Man.slices_Clone.f l = some l := by unfold Man.slices_Clone.f; exact if_pos (Nat.lt_of_le_of_lt h12 (by decide))
/-- What the loop of Put gives, number by number. -/
def putT (kk : Int) (ys zs : List Int) : List Int := List.zipWith (fun y z => if z = 0 then y else wrap64 (y + wrap64 (kk * z))) ys zs
theorem putT_len (kk : Int) (ys zs : List Int) (hl : ys.length = zs.length) : (putT kk ys zs).length = zs.length := by simp [putT, hl]
theorem putT_get (kk : Int) (ys zs : List Int) (i : Nat) (h : i < (putT kk ys zs).length) (h1 : i < ys.length) (h2 : i < zs.length) : (putT kk ys zs)[i] = if zs[i] = 0 then ys[i] else wrap64 (ys[i] + wrap64 (kk * zs[i])) := by simp [putT]
theorem fold_prs (kk : Int) (ys zs : List Int) (hl : ys.length = zs.length) : ∀ k, k ≤ zs.length →
    (((Man.prs (fun i : Fin zs.length => zs[i]) k).map fun p => ((p.1 : Nat), p.2)).foldl (Man.putStep kk) ys) = (putT kk ys zs).take k ++ ys.drop k := by
  intro k
  induction k with
  | zero => intro _; simp [Man.prs]
  | succ k ih =>
    intro hk
    have hk' : k < zs.length := by omega
    have hT := putT_len kk ys zs hl
    rw [Man.prs_succ _ k hk', List.map_append, List.foldl_append, ih (by omega), List.take_succ_eq_append_getElem (show k < (putT kk ys zs).length by omega), putT_get kk ys zs k _ (by omega) hk']
    have hd : ys.drop k = ys[k] :: ys.drop (k + 1) := List.drop_eq_getElem_cons (by omega)
    by_cases hz : zs[k] = 0
    · simp only [Fin.getElem_fin, hz, if_true, List.map_nil, List.foldl_nil]
      rw [hd, List.append_assoc]
      rfl
    · have hlen : ((putT kk ys zs).take k).length = k := by rw [List.length_take]; omega
      simp only [Fin.getElem_fin, hz, if_false, List.map_cons, List.map_nil, List.foldl_cons, List.foldl_nil, Man.putStep]
      rw [rd_nat _ k (by simp; omega), List.getElem_append_right (by omega)]
      simp only [hlen, Nat.sub_self, hd, List.getElem_cons_zero]
      rw [List.set_append_right _ _ (by omega), hlen, Nat.sub_self, List.set_cons_zero, List.append_assoc]
      rfl
theorem putLoop_f (kk k2 : Int) (ys zs : List Int) (hl : ys.length = zs.length) (h12 : zs.length ≤ 12) : Man.putLoop.f ys zs k2 kk = some (putT kk ys zs) := by
  unfold Man.putLoop.f
  rw [if_pos ⟨hl, by omega⟩, fold_prs kk ys zs hl zs.length (Nat.le_refl _), List.take_of_length_le (by rw [putT_len kk ys zs hl]; omega), List.drop_eq_nil_of_le (by omega), List.append_nil]
theorem fit_f (T : List Int) (c : Int) (h : T.length ≤ 12) (k : Nat) (hk : 30 ≤ k) : Ad.lin_fit.f k T c = some (if valB T c = true then (T, c, 0) else ([], 0, 3)) := by
  have hM : maxLen = 9223372036854775807 := by decide
  unfold Ad.lin_fit.f
  rw [valid_ad c (by omega) (by omega), Option.bind_some]
  split <;> rfl
theorem add_tot (l m : List Int) (a b : Int) (hl : l.length ≤ maxLen) (hm : m.length ≤ maxLen) (k : Nat) (hk : 60 + l.length + m.length ≤ k) : ∃ r1 r2 r3, Ad.lin_Add.f k l a m b = some (r1, r2, r3) := by
  have hM : maxLen = 9223372036854775807 := by decide
  unfold Ad.lin_Add.f Ad.lin_joined_Add_1.f
  rw [valid_ad a hl (by omega), valid_ad b hm (by omega)]
  obtain ⟨k, rfl⟩ : ∃ m, k = m + 1 := ⟨k - 1, by omega⟩
  simp only [Option.bind_some, Ad.lin_joined_Add_1.j0, Ad.lin_Add_1.f]
  by_cases h1 : valB l a = true
  · by_cases h2 : valB m b = true
    · by_cases h3 : l.length = m.length
      · have h12 : l.length ≤ 12 := ((valB_iff l a).1 h1).2.1
        have hb : Ad.lin_both_int_Add_1.f k l m = some (List.zipWith (fun x y => wrap64 (x + y)) l m) := by
          unfold Ad.lin_both_int_Add_1.f
          rw [if_pos (by omega), if_pos (by omega), Int.toNat_natCast]
          have := both_add_l0 l m (List.zipWith (fun x y => wrap64 (x + y)) l m) hl h3.symm (by simp [h3]) (by intro i h; simp) l.length k 0 (by omega) (by omega) (by omega)
          rw [List.take_zero, List.nil_append, Nat.sub_zero, List.length_zipWith, show min l.length m.length = l.length by omega] at this
          exact this
        simp only [h1, h2, h3, if_true, Bool.not_true, Bool.false_eq_true, if_false, hb, Option.bind_some]
        rw [fit_f _ _ (by simp; omega) k (by omega)]
        exact ⟨_, _, _, rfl⟩
      · have h3' : ¬ ((l.length : Int) = (m.length : Int)) := by omega
        simp only [h1, h2, h3', if_true, Bool.not_true, Bool.false_eq_true, if_false, Option.bind_some]
        exact ⟨_, _, _, rfl⟩
    · simp only [h1, h2, if_true, Bool.not_false, Option.bind_some]
      exact ⟨_, _, _, rfl⟩
  · simp only [h1, Bool.false_eq_true, if_false, if_true, Option.bind_some]
    exact ⟨_, _, _, rfl⟩
theorem sub_tot (l m : List Int) (a b : Int) (hl : l.length ≤ maxLen) (hm : m.length ≤ maxLen) (k : Nat) (hk : 60 + l.length + m.length ≤ k) : ∃ r1 r2 r3, Ad.lin_Sub.f k l a m b = some (r1, r2, r3) := by
  have hM : maxLen = 9223372036854775807 := by decide
  unfold Ad.lin_Sub.f Ad.lin_joined_Sub_1.f
  rw [valid_ad a hl (by omega), valid_ad b hm (by omega)]
  obtain ⟨k, rfl⟩ : ∃ m, k = m + 1 := ⟨k - 1, by omega⟩
  simp only [Option.bind_some, Ad.lin_joined_Sub_1.j0, Ad.lin_Sub_1.f]
  by_cases h1 : valB l a = true
  · by_cases h2 : valB m b = true
    · by_cases h3 : l.length = m.length
      · have h12 : l.length ≤ 12 := ((valB_iff l a).1 h1).2.1
        have hb : Ad.lin_both_int_Sub_1.f k l m = some (List.zipWith (fun x y => wrap64 (x - y)) l m) := by
          unfold Ad.lin_both_int_Sub_1.f
          rw [if_pos (by omega), if_pos (by omega), Int.toNat_natCast]
          have := both_sub_l0 l m (List.zipWith (fun x y => wrap64 (x - y)) l m) hl h3.symm (by simp [h3]) (by intro i h; simp) l.length k 0 (by omega) (by omega) (by omega)
          rw [List.take_zero, List.nil_append, Nat.sub_zero, List.length_zipWith, show min l.length m.length = l.length by omega] at this
          exact this
        simp only [h1, h2, h3, if_true, Bool.not_true, Bool.false_eq_true, if_false, hb, Option.bind_some]
        rw [fit_f _ _ (by simp; omega) k (by omega)]
        exact ⟨_, _, _, rfl⟩
      · have h3' : ¬ ((l.length : Int) = (m.length : Int)) := by omega
        simp only [h1, h2, h3', if_true, Bool.not_true, Bool.false_eq_true, if_false, Option.bind_some]
        exact ⟨_, _, _, rfl⟩
    · simp only [h1, h2, if_true, Bool.not_false, Option.bind_some]
      exact ⟨_, _, _, rfl⟩
  · simp only [h1, Bool.false_eq_true, if_false, if_true, Option.bind_some]
    exact ⟨_, _, _, rfl⟩
theorem scale_tot (l : List Int) (a kk : Int) (hl : l.length ≤ maxLen) (k : Nat) (hk : 60 + l.length ≤ k) : ∃ r1 r2 r3, Sc.lin_Scale.f k l a kk = some (r1, r2, r3) := by
  by_cases hv : valB l a = true
  · rw [scale_f l a kk ((valB_iff l a).1 hv).2.1 hv k (by omega)]
    split <;> exact ⟨_, _, _, rfl⟩
  · unfold Sc.lin_Scale.f
    rw [valid_sc a hl (by omega), Option.bind_some, if_neg hv]
    exact ⟨_, _, _, rfl⟩
theorem put_tot (l m : List Int) (a b i : Int) (hl : l.length ≤ maxLen) (hm : m.length ≤ maxLen) (k : Nat) (hk : 60 + l.length + m.length ≤ k) : ∃ r1 r2 r3, Pu.lin_Put.f k l a i m b = some (r1, r2, r3) := by
  have hM : maxLen = 9223372036854775807 := by decide
  unfold Pu.lin_Put.f
  rw [valid_ad a hl (by omega), valid_ad b hm (by omega)]
  obtain ⟨k, rfl⟩ : ∃ m, k = m + 2 := ⟨k - 2, by omega⟩
  simp only [Option.bind_some, Pu.lin_Put.j0, Pu.lin_Put.j1]
  by_cases h1 : valB l a = true
  · by_cases h2 : valB m b = true
    · by_cases h3 : l.length = m.length
      · obtain ⟨l1, h12, l3⟩ := (valB_iff l a).1 h1
        obtain ⟨m1, m12, m3⟩ := (valB_iff m b).1 h2
        have h3' : (l.length : Int) = (m.length : Int) := by omega
        simp only [h1, h2, h3, h3', if_true, Bool.not_true, Bool.false_eq_true, if_false]
        by_cases i0 : i < 0
        · rw [if_pos i0]
          exact ⟨_, _, _, rfl⟩
        · rw [if_neg i0]
          by_cases i1 : i ≥ (m.length : Int)
          · rw [if_pos (decide_eq_true i1)]
            exact ⟨_, _, _, rfl⟩
          · obtain ⟨j, rfl⟩ : ∃ j : Nat, i = (j : Int) := ⟨i.toNat, by omega⟩
            have hj : j < l.length := by omega
            have hsl : (l.set j 0).length = m.length := by simp [h3]
            rw [decide_eq_false i1, if_neg Bool.false_ne_true, clone_f h12, Option.bind_some, if_pos (show (0 : Int) ≤ (j : Int) by omega), if_pos (show (j : Int) < (m.length : Int) by omega), if_pos (show (j : Int) < (l.length : Int) by omega), rd_nat l j hj, Int.toNat_natCast, putLoop_f _ _ _ _ hsl m12, Option.bind_some]
            have hput : (putT l[j] (l.set j 0) m).length = m.length := putT_len _ _ _ hsl
            rw [fit_f _ _ (by omega) k (by omega)]
            exact ⟨_, _, _, rfl⟩
      · have h3' : ¬ ((l.length : Int) = (m.length : Int)) := by omega
        simp only [h1, h2, h3', if_true, Bool.not_true, Bool.false_eq_true, if_false]
        exact ⟨_, _, _, rfl⟩
    · simp only [h1, h2, if_true, Bool.not_false]
      exact ⟨_, _, _, rfl⟩
  · simp only [h1, Bool.false_eq_true, if_false, if_true]
    exact ⟨_, _, _, rfl⟩
theorem cut_tot (l : List Int) (a i : Int) (hl : l.length ≤ maxLen) (k : Nat) (hk : 60 + l.length ≤ k) : ∃ r1 r2 r3, Cr.lin_Cut.f k l a i = some (r1, r2, r3) := by
  have hM : maxLen = 9223372036854775807 := by decide
  unfold Cr.lin_Cut.f
  rw [valid_ad a hl (by omega), Option.bind_some]
  obtain ⟨k, rfl⟩ : ∃ m, k = m + 1 := ⟨k - 1, by omega⟩
  simp only [Cr.lin_Cut.j0]
  by_cases h1 : valB l a = true
  · obtain ⟨l1, h12, l3⟩ := (valB_iff l a).1 h1
    rw [if_pos h1]
    by_cases i0 : i < 0
    · rw [if_pos i0]
      exact ⟨_, _, _, rfl⟩
    · rw [if_neg i0]
      by_cases i1 : i ≥ (l.length : Int)
      · rw [if_pos (decide_eq_true i1)]
        exact ⟨_, _, _, rfl⟩
      · obtain ⟨j, rfl⟩ : ∃ j : Nat, i = (j : Int) := ⟨i.toNat, by omega⟩
        rw [decide_eq_false i1, if_neg Bool.false_ne_true, if_pos (show (0 : Int) ≤ (j : Int) by omega), if_pos (show (j : Int) < (l.length : Int) by omega)]
        by_cases h0 : rd l (j : Int) = 0
        · have hdel : Man.slices_Delete.f l (j : Int) (wrap64 ((j : Int) + 1)) = some (l.eraseIdx j) := by
            unfold Man.slices_Delete.f
            rw [w64 (n := (j : Int) + 1) (by omega) (by omega), Int.toNat_natCast]
            exact if_pos (show (0 : Int) ≤ (j : Int) ∧ (j : Int) + 1 = (j : Int) + 1 ∧ (j : Int) < (l.length : Int) ∧ l.length ≤ 12 from ⟨by omega, rfl, by omega, h12⟩)
          rw [if_pos h0, clone_f h12, Option.bind_some, hdel, Option.bind_some]
          exact ⟨_, _, _, rfl⟩
        · rw [if_neg h0]
          exact ⟨_, _, _, rfl⟩
  · rw [if_neg h1]
    exact ⟨_, _, _, rfl⟩
theorem room_tot (l : List Int) (a i n : Int) (hl : l.length ≤ maxLen) (hn : (Lit.int .i64 n).wf = true) (k : Nat) (hk : 60 + l.length ≤ k) : ∃ r1 r2 r3, Cr.lin_Room.f k l a i n = some (r1, r2, r3) := by
  have hM : maxLen = 9223372036854775807 := by decide
  unfold Cr.lin_Room.f
  rw [valid_ad a hl (by omega), Option.bind_some]
  obtain ⟨k, rfl⟩ : ∃ m, k = m + 1 := ⟨k - 1, by omega⟩
  simp only [Cr.lin_Room.j0]
  by_cases h1 : valB l a = true
  · obtain ⟨l1, h12, l3⟩ := (valB_iff l a).1 h1
    rw [if_pos h1]
    by_cases i0 : i < 0
    · rw [if_pos i0]
      exact ⟨_, _, _, rfl⟩
    · rw [if_neg i0]
      by_cases i1 : i > (l.length : Int)
      · rw [if_pos i1]
        exact ⟨_, _, _, rfl⟩
      · rw [if_neg i1]
        by_cases n0 : n < 0
        · rw [if_pos (decide_eq_true n0)]
          exact ⟨_, _, _, rfl⟩
        · rw [decide_eq_false n0, if_neg Bool.false_ne_true, w64 (n := 12 - (l.length : Int)) (by omega) (by omega)]
          by_cases n1 : n > 12 - (l.length : Int)
          · rw [if_pos n1]
            exact ⟨_, _, _, rfl⟩
          · obtain ⟨j, rfl⟩ : ∃ j : Nat, i = (j : Int) := ⟨i.toNat, by omega⟩
            obtain ⟨t, rfl⟩ : ∃ t : Nat, n = (t : Int) := ⟨n.toNat, by omega⟩
            have hins : Man.slices_Insert.f l (j : Int) (List.replicate ((t : Int)).toNat 0) = some (l.take j ++ List.replicate t 0 ++ l.drop j) := by
              unfold Man.slices_Insert.f
              rw [Int.toNat_natCast, Int.toNat_natCast]
              exact if_pos (show (0 : Int) ≤ (j : Int) ∧ (j : Int) ≤ (l.length : Int) ∧ l.length + (List.replicate t (0 : Int)).length ≤ 24 from ⟨by omega, by omega, by simp; omega⟩)
            rw [if_neg n1, clone_f h12, Option.bind_some, if_pos (show (0 : Int) ≤ (t : Int) by omega), if_pos (show ((t : Int)).toNat ≤ 35184372088832 by omega), hins, Option.bind_some]
            exact ⟨_, _, _, rfl⟩
  · rw [if_neg h1]
    exact ⟨_, _, _, rfl⟩
theorem walkOwn (a0 : Option Addr) (len0 cap0 : Nat) (z0 : List Int) (b0 : Int) (a1 : Option Addr) (len1 cap1 : Nat) (z1 : List Int) (b1 : Int) (i n : Int) (w : World)
    (w0 : (a0 = none ∧ len0 = 0 ∧ cap0 = 0 ∧ z0 = []) ∨ ∃ x, a0 = some x ∧ len0 ≤ cap0 ∧ cap0 ≤ maxLen ∧ z0.length = cap0 ∧ (∀ i, i < z0.length → w.cell? (x.add i) = some (.int .i64 (z0.getD i 0))) ∧ ∀ n ∈ z0, (Lit.int .i64 n).wf = true) (x0 : (Lit.int .i64 b0).wf = true) (y0 : len0 * 8 ≤ 140737488351232)
    (w1 : (a1 = none ∧ len1 = 0 ∧ cap1 = 0 ∧ z1 = []) ∨ ∃ x, a1 = some x ∧ len1 ≤ cap1 ∧ cap1 ≤ maxLen ∧ z1.length = cap1 ∧ (∀ i, i < z1.length → w.cell? (x.add i) = some (.int .i64 (z1.getD i 0))) ∧ ∀ n ∈ z1, (Lit.int .i64 n).wf = true) (x1 : (Lit.int .i64 b1).wf = true) (y1 : len1 * 8 ≤ 140737488351232)
    (x2 : (Lit.int .i64 i).wf = true) (x3 : (Lit.int .i64 n).wf = true) :
    Calls Try.prog 9 #[.agg #[.slice a0 len0 cap0, .int .i64 b0], .agg #[.slice a1 len1 cap1, .int .i64 b1], .int .i64 i, .int .i64 n] w fun e w' => e = .returned (.bool true) ∧ Below w.heap.size w w' := by
  have hM : maxLen = 9223372036854775807 := by decide
  obtain ⟨l0, rfl, hr0, hm0, hw0, hc0⟩ := ReadsInt.ofRowC w0
  obtain ⟨l1, rfl, hr1, hm1, hw1, hc1⟩ := ReadsInt.ofRowC w1
  have haw := awake_ge (l0.length + l1.length)
  exact Ow.own_walk (60 + (l0.length + l1.length)) a0 cap0 l0 b0 a1 cap1 l1 b1 i n w (Kd.C_of_reads (d := (0 : Int)) (h1 := fun _ => rfl) hr0) hc0 (Kd.C_of_reads (d := (0 : Int)) (h1 := fun _ => rfl) hr1) hc1 (by omega) (by omega) haw
    (same_refl b0 hm0 (by omega)) (same_refl b1 hm1 (by omega)) (add_tot l0 l1 b0 b1 hm0 hm1 _ (by omega)) (sub_tot l0 l1 b0 b1 hm0 hm1 _ (by omega)) (scale_tot l0 b0 n hm0 _ (by omega)) (put_tot l0 l1 b0 b1 i hm0 hm1 _ (by omega)) (cut_tot l0 b0 i hm0 _ (by omega)) (room_tot l0 b0 i n hm0 x3 _ (by omega))
end Go.Proofs.Ytmafphfajgoojaa.Lp
