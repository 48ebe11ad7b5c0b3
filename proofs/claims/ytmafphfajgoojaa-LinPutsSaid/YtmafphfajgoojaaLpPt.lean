/- The plain law behind LinPuts, and the walk in the form that the row asks for. -/
import Derived.Test.YtmafphfajgoojaaLpBase
import Derived.Test.YtmafphfajgoojaaPt
namespace Go.Proofs.Ytmafphfajgoojaa.Lp
open Go.RowKit Go.Proofs.YtmafphfajgoojaaW.PrintWords Go.Proofs.YtmafphfajgoojaaW.PrintLast
set_option linter.unusedVariables false
set_option linter.unusedSimpArgs false
theorem clone_f {l : List Int} (h12 : l.length ≤ 12) : Man.slices_Clone.f l = some l := by unfold Man.slices_Clone.f; exact if_pos (Nat.lt_of_le_of_lt h12 (by decide))
theorem is_pt {l : List Int} (a e : Int) (hm : l.length ≤ maxLen) {k : Nat} (hk : l.length + 1 < k) : Pt.headlandlaw02_is.f k l a e l a e = some true := by
  unfold Pt.headlandlaw02_is.f
  rw [if_pos rfl, same_refl a hm hk]
  rfl
theorem ptfill_set (T : List Int) (i : Nat) (h : i < T.length) (v : Int) (hv : v = T[i]) : (T.take i ++ List.replicate (T.length - i) 0).set i v = T.take (i + 1) ++ List.replicate (T.length - (i + 1)) 0 := by
  subst hv
  have e : T.length - i = (T.length - (i + 1)) + 1 := by omega
  rw [List.set_append_right _ _ (by simp; omega), e, List.replicate_succ]
  have : i - (T.take i).length = 0 := by simp; omega
  rw [this, List.set_cons_zero, List.take_succ_eq_append_getElem h, List.append_assoc]
  rfl
theorem ptfill_len (T : List Int) (i : Nat) (h : i ≤ T.length) : (T.take i ++ List.replicate (T.length - i) 0).length = T.length := by simp; omega
theorem ptfill_end (T : List Int) (n : Nat) (h : T.length = n) : T.take n ++ List.replicate (T.length - n) 0 = T := by subst h; simp
theorem rfmix_l0 (x y : Int) (l m T : List Int) (c1 c2 c3 : Int) (hm : l.length ≤ maxLen) (hlm : m.length = l.length) (hT : T.length = l.length) (hv : ∀ i (h : i < l.length), wrap64 (wrap64 (x * l[i]) + wrap64 (y * m[i])) = T[i]) : ∀ (d k i : Nat), i ≤ l.length → l.length - i = d → d < k →
    Rf.headlandref02_Mix.l0 k x y (l.length : Int) (i : Int) l c1 m c2 (T.take i ++ List.replicate (T.length - i) 0) c3 = some (T, c3) := by
  have hM : maxLen = 9223372036854775807 := by decide
  intro d
  induction d with
  | zero =>
    intro k i h0 hd hk
    obtain ⟨k, rfl⟩ : ∃ m, k = m + 1 := ⟨k - 1, by omega⟩
    simp only [Rf.headlandref02_Mix.l0]
    rw [if_neg (by omega), ptfill_end T i (by omega)]
  | succ d ih =>
    intro k i h0 hd hk
    obtain ⟨k, rfl⟩ : ∃ m, k = m + 1 := ⟨k - 1, by omega⟩
    have hlt : i < l.length := by omega
    simp only [Rf.headlandref02_Mix.l0]
    rw [ptfill_len T i (by omega), if_pos (by omega), if_pos (by omega), if_pos (by omega), if_pos (by omega), if_pos (by omega), rd_nat l i hlt, rd_nat m i (by omega), w64 (n := (i : Int) + 1) (by omega) (by omega), Int.toNat_natCast,
      ptfill_set T i (by omega) _ (hv i hlt)]
    have := ih k (i + 1) (by omega) (by omega) (by omega)
    rw [Int.natCast_succ] at this
    exact this
theorem rfmix_f (x y : Int) (l m T : List Int) (c1 c2 : Int) (h12 : l.length ≤ 12) (hlm : m.length = l.length) (hT : T.length = l.length) (hv : ∀ i (h : i < l.length), wrap64 (wrap64 (x * l[i]) + wrap64 (y * m[i])) = T[i]) (k : Nat) (hk : 30 ≤ k) :
    Rf.headlandref02_Mix.f k x l c1 y m c2 = some (T, wrap64 (wrap64 (x * c1) + wrap64 (y * c2))) := by
  have hM : maxLen = 9223372036854775807 := by decide
  unfold Rf.headlandref02_Mix.f
  rw [if_pos (by omega), if_pos (by omega), Int.toNat_natCast]
  have := rfmix_l0 x y l m T c1 c2 (wrap64 (wrap64 (x * c1) + wrap64 (y * c2))) (by omega) hlm hT hv l.length k 0 (by omega) (by omega) (by omega)
  rw [List.take_zero, List.nil_append, Nat.sub_zero, hT] at this
  exact this
/-- What the loop of Put gives, number by number. -/
def putT (kk : Int) (ys zs : List Int) : List Int := List.zipWith (fun y z => if z = 0 then y else wrap64 (y + wrap64 (kk * z))) ys zs
theorem putT_len (kk : Int) (ys zs : List Int) (hl : ys.length = zs.length) : (putT kk ys zs).length = zs.length := by simp [putT, hl]
theorem putT_get (kk : Int) (ys zs : List Int) (i : Nat) (h : i < (putT kk ys zs).length) (h1 : i < ys.length) (h2 : i < zs.length) : (putT kk ys zs)[i] = if zs[i] = 0 then ys[i] else wrap64 (ys[i] + wrap64 (kk * zs[i])) := by simp [putT]
theorem fold_prs (kk : Int) (ys zs : List Int) (hl : ys.length = zs.length) : ∀ k, k ≤ zs.length →
    (((Man.prs (fun i : Fin zs.length => zs[i]) k).map fun p => ((p.1 : Nat), p.2)).foldl (Man.putStep kk) ys) = (putT kk ys zs).take k ++ ys.drop k := by
  intro k
  induction k with
  | zero => intro _; simp [Man.prs]
  | succ k ih =>
    intro hk
    have hk' : k < zs.length := by omega
    have hT := putT_len kk ys zs hl
    rw [Man.prs_succ _ k hk', List.map_append, List.foldl_append, ih (by omega), List.take_succ_eq_append_getElem (show k < (putT kk ys zs).length by omega), putT_get kk ys zs k _ (by omega) hk']
    have hd : ys.drop k = ys[k] :: ys.drop (k + 1) := List.drop_eq_getElem_cons (by omega)
    by_cases hz : zs[k] = 0
    · simp only [Fin.getElem_fin, hz, if_true, List.map_nil, List.foldl_nil]
      rw [hd, List.append_assoc]
      rfl
    · have hlen : ((putT kk ys zs).take k).length = k := by rw [List.length_take]; omega
      simp only [Fin.getElem_fin, hz, if_false, List.map_cons, List.map_nil, List.foldl_cons, List.foldl_nil, Man.putStep]
      rw [rd_nat _ k (by simp; omega), List.getElem_append_right (by omega)]
      simp only [hlen, Nat.sub_self, hd, List.getElem_cons_zero]
      rw [List.set_append_right _ _ (by omega), hlen, Nat.sub_self, List.set_cons_zero, List.append_assoc]
      rfl
theorem putLoop_f (kk k2 : Int) (ys zs : List Int) (hl : ys.length = zs.length) (h12 : zs.length ≤ 12) : Man.putLoop.f ys zs k2 kk = some (putT kk ys zs) := by
  unfold Man.putLoop.f
  rw [if_pos ⟨hl, by omega⟩, fold_prs kk ys zs hl zs.length (Nat.le_refl _), List.take_of_length_le (by rw [putT_len kk ys zs hl]; omega), List.drop_eq_nil_of_le (by omega), List.append_nil]
theorem both_rf (l m : List Int) (a b : Int) (hl : l.length ≤ maxLen) (hm : m.length ≤ maxLen) (k : Nat) (hk : 60 + l.length + m.length ≤ k) :
    Rf.headlandref02_both.f k l a m b = some (if valB l a = true ∧ valB m b = true then (if l.length = m.length then 0 else 2) else 1) := by
  obtain ⟨k, rfl⟩ : ∃ m, k = m + 1 := ⟨k - 1, by omega⟩
  unfold Rf.headlandref02_both.f
  rw [valid_bs a hl (by omega), valid_bs b hm (by omega)]
  simp only [Option.bind_some, Rf.headlandref02_both.j0]
  cases valB l a <;> cases valB m b <;> simp
  by_cases e : l.length = m.length
  · simp [e]
  · have h' : ¬ ((l.length : Int) = (m.length : Int)) := by omega
    simp [e, h']
theorem fit_rf (T : List Int) (c : Int) (h : T.length ≤ 12) (k : Nat) (hk : 30 ≤ k) : ∃ r : List Int × Int × Int, Ad.lin_fit.f k T c = some r ∧ Rf.headlandref02_fit.f k T c = some r ∧ r.1.length ≤ 12 := by
  have hM : maxLen = 9223372036854775807 := by decide
  unfold Ad.lin_fit.f Rf.headlandref02_fit.f
  rw [valid_ad c (by omega) (by omega), valid_bs c (by omega) (by omega)]
  simp only [Option.bind_some]
  cases valB T c
  · exact ⟨_, rfl, rfl, by simp⟩
  · exact ⟨_, rfl, rfl, h⟩
theorem mul_bd {x y : Int} (hx : -1048576 ≤ x ∧ x ≤ 1048576) (hy : -1048576 ≤ y ∧ y ≤ 1048576) : -1099511627776 ≤ x * y ∧ x * y ≤ 1099511627776 := by
  have h1 : (x * y).natAbs ≤ 1048576 * 1048576 := by rw [Int.natAbs_mul]; exact Nat.mul_le_mul (by omega) (by omega)
  omega
theorem put_pt (l m : List Int) (a b i : Int) (hl : l.length ≤ maxLen) (hm : m.length ≤ maxLen) (k : Nat) (hk : 60 + l.length + m.length ≤ k) :
    ∃ r : List Int × Int × Int, Pu.lin_Put.f k l a i m b = some r ∧ Rf.headlandref02_Put.f k l a i m b = some r ∧ r.1.length ≤ 12 := by
  have hM : maxLen = 9223372036854775807 := by decide
  unfold Pu.lin_Put.f Rf.headlandref02_Put.f
  rw [valid_ad a hl (by omega), valid_ad b hm (by omega), both_rf l m a b hl hm k hk]
  obtain ⟨k, rfl⟩ : ∃ m, k = m + 2 := ⟨k - 2, by omega⟩
  simp only [Option.bind_some, Pu.lin_Put.j0, Pu.lin_Put.j1, Rf.headlandref02_Put.j0]
  by_cases h1 : valB l a = true
  · by_cases h2 : valB m b = true
    · by_cases h3 : l.length = m.length
      · obtain ⟨l1, h12, l3⟩ := (valB_iff l a).1 h1
        obtain ⟨m1, m12, m3⟩ := (valB_iff m b).1 h2
        have h3' : (l.length : Int) = (m.length : Int) := by omega
        have hc := clone_f h12
        simp only [h1, h2, h3, h3', if_true, and_self, Bool.not_true, Bool.false_eq_true, if_false, hc, Option.bind_some]
        by_cases i0 : i < 0
        · rw [if_pos i0, if_pos i0]
          exact ⟨_, rfl, rfl, by simp⟩
        · rw [if_neg i0, if_neg i0]
          by_cases i1 : i ≥ (m.length : Int)
          · rw [if_pos (decide_eq_true i1), if_pos (decide_eq_true i1)]
            exact ⟨_, rfl, rfl, by simp⟩
          · obtain ⟨j, rfl⟩ : ∃ j : Nat, i = (j : Int) := ⟨i.toNat, by omega⟩
            have hj : j < l.length := by omega
            have hlj := l1 l[j] (List.getElem_mem hj)
            have hab := mul_bd hlj m3
            simp only [i1, decide_false, Bool.false_eq_true, if_false, List.nil_append, Int.toNat_natCast, List.length_nil, Nat.zero_add]
            rw [if_pos (by omega), if_pos (by omega), if_pos (by omega), if_pos (by omega), if_pos (by omega), if_pos (by omega), if_pos (by omega), rd_nat l j hj]
            have hsl : (l.set j 0).length = m.length := by simp [h3]
            rw [putLoop_f _ _ _ _ hsl m12]
            have hx := rfmix_f 1 l[j] (l.set j 0) m (putT l[j] (l.set j 0) m) a b (by omega) hsl.symm (by rw [putT_len _ _ _ hsl, hsl]) (by
              intro t ht
              have htm : t < m.length := by omega
              rw [putT_get _ _ _ t _ ht htm]
              have hs : -1048576 ≤ (l.set j 0)[t] ∧ (l.set j 0)[t] ≤ 1048576 := by
                rw [List.getElem_set]
                split
                · omega
                · exact l1 _ (List.getElem_mem _)
              have hmt := m1 m[t] (List.getElem_mem htm)
              have hp := mul_bd hlj hmt
              rw [Int.one_mul, w64 (n := (l.set j 0)[t]) (by omega) (by omega), w64 (n := l[j] * m[t]) (by omega) (by omega)]
              split
              · rename_i h0
                rw [h0, Int.mul_zero, Int.add_zero, w64 (by omega) (by omega)]
              · rfl) (k + 1) (by omega)
            have hput : (putT l[j] (l.set j 0) m).length ≤ 12 := by rw [putT_len _ _ _ hsl]; exact m12
            obtain ⟨r, hr1, hr2, hr3⟩ := fit_rf (putT l[j] (l.set j 0) m) (wrap64 (a + wrap64 (l[j] * b))) hput k (by omega)
            have hr4 := Rf.headlandref02_fit.mono _ _ k _ hr2
            have hx' : wrap64 (wrap64 (1 * a) + wrap64 (l[j] * b)) = wrap64 (a + wrap64 (l[j] * b)) := by rw [Int.one_mul, w64 (n := a) (by omega) (by omega)]
            rw [hx, hx']
            simp only [Option.bind_some, hr1, hr4]
            exact ⟨_, rfl, rfl, hr3⟩
      · have h3' : ¬ ((l.length : Int) = (m.length : Int)) := by omega
        simp only [h1, h2, h3, h3', if_true, and_self, Bool.not_true, Bool.false_eq_true, if_false, Option.bind_some]
        exact ⟨_, rfl, rfl, by simp⟩
    · simp only [h1, h2, if_true, and_false, Bool.false_eq_true, if_false, Option.bind_some]
      exact ⟨_, rfl, rfl, by simp⟩
  · simp only [h1, if_true, false_and, Bool.false_eq_true, if_false, Option.bind_some]
    exact ⟨_, rfl, rfl, by simp⟩
theorem without_l0 (l : List Int) (j : Nat) (c : Int) (h12 : l.length ≤ 12) : ∀ (d k i : Nat), i ≤ l.length → l.length - i = d → d < k →
    Rf.headlandref02_Without.l0 k (j : Int) l (l.length : Int) (i : Int) ((l.take i).eraseIdx j) c = some (l.eraseIdx j, c) := by
  intro d
  induction d with
  | zero =>
    intro k i h0 hd hk
    obtain ⟨k, rfl⟩ : ∃ m, k = m + 1 := ⟨k - 1, by omega⟩
    simp only [Rf.headlandref02_Without.l0]
    rw [if_neg (by omega), List.take_of_length_le (by omega)]
  | succ d ih =>
    intro k i h0 hd hk
    obtain ⟨k, rfl⟩ : ∃ m, k = m + 1 := ⟨k - 1, by omega⟩
    have hlt : i < l.length := by omega
    simp only [Rf.headlandref02_Without.l0]
    have := ih k (i + 1) (by omega) (by omega) (by omega)
    rw [Int.natCast_succ, List.take_succ_eq_append_getElem hlt] at this
    have htl : (l.take i).length = i := by rw [List.length_take]; omega
    have hel : ((l.take i).eraseIdx j).length ≤ i := by rw [List.length_eraseIdx]; split <;> omega
    rw [if_pos (by omega), if_pos (by omega), if_pos (by omega), w64 (n := (i : Int) + 1) (by omega) (by omega), rd_nat l i hlt]
    by_cases e : i = j
    · subst e
      rw [if_pos rfl]
      rw [List.eraseIdx_append_of_length_le (by omega), htl, Nat.sub_self, List.eraseIdx_cons_zero, List.append_nil] at this
      rw [List.eraseIdx_of_length_le (by omega)]
      exact this
    · rw [if_neg (by omega), if_pos (by omega)]
      by_cases e2 : j < i
      · rw [List.eraseIdx_append_of_lt_length (by omega)] at this
        exact this
      · rw [List.eraseIdx_of_length_le (by simp; omega)] at this
        rw [List.eraseIdx_of_length_le (by omega)]
        exact this
theorem without_f (l : List Int) (j : Nat) (c : Int) (h12 : l.length ≤ 12) (k : Nat) (hk : 13 ≤ k) : Rf.headlandref02_Without.f k l c (j : Int) = some (l.eraseIdx j, c) := by
  unfold Rf.headlandref02_Without.f
  have := without_l0 l j c h12 l.length k 0 (by omega) (by omega) (by omega)
  rw [List.take_zero, List.eraseIdx_nil] at this
  exact this
theorem cut_pt (l : List Int) (a i : Int) (hl : l.length ≤ maxLen) (k : Nat) (hk : 60 + l.length ≤ k) :
    ∃ r : List Int × Int × Int, Cr.lin_Cut.f k l a i = some r ∧ Rf.headlandref02_Cut.f k l a i = some r ∧ r.1.length ≤ 12 := by
  have hM : maxLen = 9223372036854775807 := by decide
  unfold Cr.lin_Cut.f Rf.headlandref02_Cut.f
  rw [valid_ad a hl (by omega), valid_bs a hl (by omega)]
  obtain ⟨k, rfl⟩ : ∃ m, k = m + 1 := ⟨k - 1, by omega⟩
  simp only [Option.bind_some, Cr.lin_Cut.j0, Rf.headlandref02_Cut.j0]
  by_cases h1 : valB l a = true
  · obtain ⟨l1, h12, l3⟩ := (valB_iff l a).1 h1
    have hc := clone_f h12
    simp only [h1, if_true]
    by_cases i0 : i < 0
    · rw [if_pos i0, if_pos i0]
      exact ⟨_, rfl, rfl, by simp⟩
    · rw [if_neg i0, if_neg i0]
      by_cases i1 : i ≥ (l.length : Int)
      · rw [if_pos (decide_eq_true i1), if_pos (decide_eq_true i1)]
        exact ⟨_, rfl, rfl, by simp⟩
      · obtain ⟨j, rfl⟩ : ∃ j : Nat, i = (j : Int) := ⟨i.toNat, by omega⟩
        have hj : j < l.length := by omega
        rw [decide_eq_false i1, if_neg Bool.false_ne_true, if_neg Bool.false_ne_true, hc, Option.bind_some]
        simp only [show ((0 : Int) ≤ (j : Int)) = True from eq_true (by omega), show ((j : Int) < (l.length : Int)) = True from eq_true (by omega), if_true]
        rw [rd_nat l j hj]
        by_cases h0 : l[j] = 0
        · rw [if_pos h0, if_pos h0, without_f l j a h12 k (by omega)]
          have hdel : Man.slices_Delete.f l (j : Int) (wrap64 ((j : Int) + 1)) = some (l.eraseIdx j) := by
            unfold Man.slices_Delete.f
            rw [w64 (n := (j : Int) + 1) (by omega) (by omega), Int.toNat_natCast]
            exact if_pos (show (0 : Int) ≤ (j : Int) ∧ (j : Int) + 1 = (j : Int) + 1 ∧ (j : Int) < (l.length : Int) ∧ l.length ≤ 12 from ⟨by omega, rfl, by omega, h12⟩)
          rw [hdel]
          refine ⟨_, rfl, rfl, ?_⟩
          show (l.eraseIdx j).length ≤ 12
          rw [List.length_eraseIdx]
          split <;> omega
        · rw [if_neg h0, if_neg h0]
          exact ⟨_, rfl, rfl, by simp⟩
  · simp only [h1, Bool.false_eq_true, if_false]
    exact ⟨_, rfl, rfl, by simp⟩
theorem room_pt (l : List Int) (a i n : Int) (hl : l.length ≤ maxLen) (hn : (Lit.int .i64 n).wf = true) (k : Nat) (hk : 60 + l.length ≤ k) :
    ∃ r : List Int × Int × Int, Cr.lin_Room.f k l a i n = some r ∧ Rf.headlandref02_Room.f k l a i n = some r ∧ r.1.length ≤ 12 := by
  have hM : maxLen = 9223372036854775807 := by decide
  unfold Cr.lin_Room.f Rf.headlandref02_Room.f
  rw [valid_ad a hl (by omega), valid_bs a hl (by omega)]
  obtain ⟨k, rfl⟩ : ∃ m, k = m + 1 := ⟨k - 1, by omega⟩
  simp only [Option.bind_some, Cr.lin_Room.j0, Rf.headlandref02_Room.j0]
  by_cases h1 : valB l a = true
  · obtain ⟨l1, h12, l3⟩ := (valB_iff l a).1 h1
    have hc := clone_f h12
    simp only [h1, if_true]
    by_cases i0 : i < 0
    · rw [if_pos i0, if_pos i0]
      exact ⟨_, rfl, rfl, by simp⟩
    · rw [if_neg i0, if_neg i0]
      by_cases i1 : i > (l.length : Int)
      · rw [if_pos i1, if_pos i1]
        exact ⟨_, rfl, rfl, by simp⟩
      · rw [if_neg i1, if_neg i1]
        by_cases n0 : n < 0
        · rw [if_pos (decide_eq_true n0), if_pos (decide_eq_true n0)]
          exact ⟨_, rfl, rfl, by simp⟩
        · rw [w64 (by omega) (by omega)]
          simp only [n0, decide_false, Bool.false_eq_true, if_false]
          by_cases n1 : n > 12 - (l.length : Int)
          · rw [if_pos n1, if_pos n1]
            exact ⟨_, rfl, rfl, by simp⟩
          · obtain ⟨j, rfl⟩ : ∃ j : Nat, i = (j : Int) := ⟨i.toNat, by omega⟩
            obtain ⟨t, rfl⟩ : ∃ t : Nat, n = (t : Int) := ⟨n.toNat, by omega⟩
            have hins : Man.slices_Insert.f l (j : Int) (List.replicate t 0) = some (l.take j ++ List.replicate t 0 ++ l.drop j) := by
              unfold Man.slices_Insert.f
              rw [if_pos ⟨by omega, by omega, by simp; omega⟩, Int.toNat_natCast]
            simp only [n1, if_false, hc, Option.bind_some, List.nil_append, Int.toNat_natCast, List.length_nil, Nat.zero_add]
            rw [if_pos (by omega), if_pos (by omega), if_pos (by omega), if_pos (by omega), if_pos (by rw [List.length_take]; omega), if_pos (by omega), if_pos (by rw [List.length_take]; omega), if_pos (by simp; omega), hins]
            exact ⟨_, rfl, rfl, by simp; omega⟩
  · simp only [h1, Bool.false_eq_true, if_false]
    exact ⟨_, rfl, rfl, by simp⟩
theorem LinPuts (l m : List Int) (a b i n : Int) (hl : l.length ≤ maxLen) (hm : m.length ≤ maxLen) (hn : (Lit.int .i64 n).wf = true) : Pt.headlandlaw02_LinPuts.f (60 + (l.length + m.length)) l a m b i n = some true := by
  have hM : maxLen = 9223372036854775807 := by decide
  obtain ⟨r, hr1, hr2, hr3⟩ := put_pt l m a b i hl hm (60 + (l.length + m.length)) (by omega)
  obtain ⟨s, hs1, hs2, hs3⟩ := cut_pt l a i hl (60 + (l.length + m.length)) (by omega)
  obtain ⟨t, ht1, ht2, ht3⟩ := room_pt l a i n hl hn (60 + (l.length + m.length)) (by omega)
  unfold Pt.headlandlaw02_LinPuts.f
  rw [hr1, hr2, hs1, hs2, ht1, ht2, awake_ge]
  simp only [Option.bind_some]
  rw [is_pt r.2.1 r.2.2 (by omega) (by omega), is_pt s.2.1 s.2.2 (by omega) (by omega), is_pt t.2.1 t.2.2 (by omega) (by omega)]
  simp
theorem walkPuts (a0 : Option Addr) (len0 cap0 : Nat) (z0 : List Int) (b0 : Int) (a1 : Option Addr) (len1 cap1 : Nat) (z1 : List Int) (b1 : Int) (i n : Int) (w : World)
    (w0 : (a0 = none ∧ len0 = 0 ∧ cap0 = 0 ∧ z0 = []) ∨ ∃ x, a0 = some x ∧ len0 ≤ cap0 ∧ cap0 ≤ maxLen ∧ z0.length = cap0 ∧ (∀ i, i < z0.length → w.cell? (x.add i) = some (.int .i64 (z0.getD i 0))) ∧ ∀ n ∈ z0, (Lit.int .i64 n).wf = true) (x0 : (Lit.int .i64 b0).wf = true)
    (w1 : (a1 = none ∧ len1 = 0 ∧ cap1 = 0 ∧ z1 = []) ∨ ∃ x, a1 = some x ∧ len1 ≤ cap1 ∧ cap1 ≤ maxLen ∧ z1.length = cap1 ∧ (∀ i, i < z1.length → w.cell? (x.add i) = some (.int .i64 (z1.getD i 0))) ∧ ∀ n ∈ z1, (Lit.int .i64 n).wf = true) (x1 : (Lit.int .i64 b1).wf = true)
    (x2 : (Lit.int .i64 i).wf = true) (x3 : (Lit.int .i64 n).wf = true) :
    Calls Try.prog 7 #[.agg #[.slice a0 len0 cap0, .int .i64 b0], .agg #[.slice a1 len1 cap1, .int .i64 b1], .int .i64 i, .int .i64 n] w fun e w' => e = .returned (.bool true) ∧ Below w.heap.size w w' := by
  obtain ⟨l0, rfl, hr0, hm0, hw0, hc0⟩ := ReadsInt.ofRowC w0
  obtain ⟨l1, rfl, hr1, hm1, hw1, hc1⟩ := ReadsInt.ofRowC w1
  exact Pt.headlandlaw02_LinPuts.calls (60 + (l0.length + l1.length)) a0 cap0 l0 b0 a1 cap1 l1 b1 i n true w (Kd.C_of_reads (d := (0 : Int)) (h1 := fun _ => rfl) hr0) hc0 (Kd.C_of_reads (d := (0 : Int)) (h1 := fun _ => rfl) hr1) hc1 (LinPuts l0 l1 b0 b1 i n hm0 hm1 x3)
end Go.Proofs.Ytmafphfajgoojaa.Lp
