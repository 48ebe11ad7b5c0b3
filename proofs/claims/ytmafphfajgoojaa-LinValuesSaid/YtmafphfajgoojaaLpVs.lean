/- The plain law behind LinValues, and the walk in the form that the row asks for. -/
import Derived.Test.YtmafphfajgoojaaLpBase
import Derived.Test.YtmafphfajgoojaaVw
namespace Go.Proofs.Ytmafphfajgoojaa.Lp
open Go.RowKit Go.Proofs.YtmafphfajgoojaaW.PrintWords Go.Proofs.YtmafphfajgoojaaW.PrintLast
set_option linter.unusedVariables false
set_option linter.unusedSimpArgs false
/-- Filling a row of zeros from the left. -/
theorem fill_set (T : List Int) (i : Nat) (h : i < T.length) (v : Int) (hv : v = T[i]) : (T.take i ++ List.replicate (T.length - i) 0).set i v = T.take (i + 1) ++ List.replicate (T.length - (i + 1)) 0 := by
  subst hv
  have e : T.length - i = (T.length - (i + 1)) + 1 := by omega
  rw [List.set_append_right _ _ (by simp; omega), e, List.replicate_succ]
  have : i - (T.take i).length = 0 := by simp; omega
  rw [this, List.set_cons_zero, List.take_succ_eq_append_getElem h, List.append_assoc]
  rfl
theorem fill_len (T : List Int) (i : Nat) (h : i ≤ T.length) : (T.take i ++ List.replicate (T.length - i) 0).length = T.length := by simp; omega
theorem fill_end (T : List Int) (n : Nat) (h : T.length = n) : T.take n ++ List.replicate (T.length - n) 0 = T := by subst h; simp
theorem both_add_l0 (l m T : List Int) (hm : l.length ≤ maxLen) (hlm : m.length = l.length) (hT : T.length = l.length) (hv : ∀ i (h : i < l.length), wrap64 (l[i] + m[i]) = T[i]) : ∀ (d k i : Nat), i ≤ l.length → l.length - i = d → d < k →
    Ad.lin_both_int_Add_1.l0 k l m (T.take i ++ List.replicate (T.length - i) 0) (l.length : Int) (i : Int) = some T := by
  have hM : maxLen = 9223372036854775807 := by decide
  intro d
  induction d with
  | zero =>
    intro k i h0 hd hk
    obtain ⟨k, rfl⟩ : ∃ m, k = m + 1 := ⟨k - 1, by omega⟩
    simp only [Ad.lin_both_int_Add_1.l0]
    rw [if_neg (by omega), fill_end T i (by omega)]
  | succ d ih =>
    intro k i h0 hd hk
    obtain ⟨k, rfl⟩ : ∃ m, k = m + 1 := ⟨k - 1, by omega⟩
    have hlt : i < l.length := by omega
    simp only [Ad.lin_both_int_Add_1.l0, Ad.lin_Add_1.f, Option.bind_some]
    rw [fill_len T i (by omega), if_pos (by omega), if_pos (by omega), if_pos (by omega), if_pos (by omega), if_pos (by omega), rd_nat l i hlt, rd_nat m i (by omega), w64 (n := (i : Int) + 1) (by omega) (by omega), Int.toNat_natCast,
      fill_set T i (by omega) _ (hv i hlt)]
    have := ih k (i + 1) (by omega) (by omega) (by omega)
    rw [Int.natCast_succ] at this
    exact this
theorem both_sub_l0 (l m T : List Int) (hm : l.length ≤ maxLen) (hlm : m.length = l.length) (hT : T.length = l.length) (hv : ∀ i (h : i < l.length), wrap64 (l[i] - m[i]) = T[i]) : ∀ (d k i : Nat), i ≤ l.length → l.length - i = d → d < k →
    Ad.lin_both_int_Sub_1.l0 k l m (T.take i ++ List.replicate (T.length - i) 0) (l.length : Int) (i : Int) = some T := by
  have hM : maxLen = 9223372036854775807 := by decide
  intro d
  induction d with
  | zero =>
    intro k i h0 hd hk
    obtain ⟨k, rfl⟩ : ∃ m, k = m + 1 := ⟨k - 1, by omega⟩
    simp only [Ad.lin_both_int_Sub_1.l0]
    rw [if_neg (by omega), fill_end T i (by omega)]
  | succ d ih =>
    intro k i h0 hd hk
    obtain ⟨k, rfl⟩ : ∃ m, k = m + 1 := ⟨k - 1, by omega⟩
    have hlt : i < l.length := by omega
    simp only [Ad.lin_both_int_Sub_1.l0, Ad.lin_Sub_1.f, Option.bind_some]
    rw [fill_len T i (by omega), if_pos (by omega), if_pos (by omega), if_pos (by omega), if_pos (by omega), if_pos (by omega), rd_nat l i hlt, rd_nat m i (by omega), w64 (n := (i : Int) + 1) (by omega) (by omega), Int.toNat_natCast,
      fill_set T i (by omega) _ (hv i hlt)]
    have := ih k (i + 1) (by omega) (by omega) (by omega)
    rw [Int.natCast_succ] at this
    exact this
/-- What Scale does with one number: the product, and whether it fits. -/
def times (n kk : Int) : Int × Bool := if n = 0 ∨ kk = 0 then (0, true) else if fitB kk = true then (wrap64 (n * kk), fitB (wrap64 (n * kk))) else (0, false)
theorem times_f (n kk : Int) (k : Nat) (hk : 1 ≤ k) : Sc.lin_Scale_1.f k n kk = some (times n kk) := by
  obtain ⟨k, rfl⟩ : ∃ m, k = m + 1 := ⟨k - 1, by omega⟩
  unfold Sc.lin_Scale_1.f times
  simp only [Sc.lin_Scale_1.j0, fits_sc, Option.bind_some]
  by_cases h1 : n = 0
  · rw [if_pos h1, if_pos trivial, if_pos (Or.inl h1)]
  · rw [if_neg h1]
    by_cases h2 : kk = 0
    · rw [if_pos (by simp [h2]), if_pos (Or.inr h2)]
    · rw [if_neg (show ¬ (kk == 0) = true by simp [h2]), if_neg (show ¬ (n = 0 ∨ kk = 0) by simp [h1, h2])]
      cases fitB kk <;> rfl
theorem scale_l0 (kk : Int) (l T : List Int) (c : Int) (hm : l.length ≤ maxLen) (hT : T = l.map fun n => (times n kk).1) : ∀ (d k i : Nat) (ok : Bool), i ≤ l.length → l.length - i = d → d + 1 < k →
    Sc.lin_Scale.l0 k ok l (l.length : Int) (i : Int) l c kk (T.take i ++ List.replicate (T.length - i) 0) 0 = some (if ok = true ∧ ((l.drop i).all fun n => (times n kk).2) = true ∧ (times c kk).2 = true then (T, (times c kk).1, 0) else ([], 0, 3)) := by
  have hM : maxLen = 9223372036854775807 := by decide
  have hTl : T.length = l.length := by rw [hT]; simp
  intro d
  induction d with
  | zero =>
    intro k i ok h0 hd hk
    obtain ⟨k, rfl⟩ : ∃ m, k = m + 1 := ⟨k - 1, by omega⟩
    simp only [Sc.lin_Scale.l0]
    rw [if_neg (by omega), fill_end T i (by omega), List.drop_eq_nil_of_le (by omega), times_f c kk k (by omega)]
    cases ok <;> cases h : (times c kk).2 <;> simp [h]
  | succ d ih =>
    intro k i ok h0 hd hk
    obtain ⟨k, rfl⟩ : ∃ m, k = m + 1 := ⟨k - 1, by omega⟩
    have hlt : i < l.length := by omega
    have hTi : (times l[i] kk).1 = T[i]'(by omega) := by subst hT; simp
    simp only [Sc.lin_Scale.l0]
    rw [fill_len T i (by omega), if_pos (by omega), if_pos (by omega), if_pos (by omega), rd_nat l i hlt, times_f _ kk k (by omega)]
    simp only [Option.bind_some]
    rw [if_pos (by omega), w64 (n := (i : Int) + 1) (by omega) (by omega), Int.toNat_natCast, fill_set T i (by omega) _ hTi, List.drop_eq_getElem_cons hlt, List.all_cons]
    have := ih k (i + 1) (times l[i] kk).2 (by omega) (by omega) (by omega)
    have h2 := ih k (i + 1) false (by omega) (by omega) (by omega)
    rw [Int.natCast_succ] at this h2
    rw [this, h2]
    cases ok <;> cases (times l[i] kk).2 <;> simp
theorem scale_f (l : List Int) (a kk : Int) (h12 : l.length ≤ 12) (hv : valB l a = true) (k : Nat) (hk : 60 ≤ k) :
    Sc.lin_Scale.f k l a kk = some (if (l.all fun n => (times n kk).2) = true ∧ (times a kk).2 = true then (l.map fun n => (times n kk).1, (times a kk).1, 0) else ([], 0, 3)) := by
  have hM : maxLen = 9223372036854775807 := by decide
  unfold Sc.lin_Scale.f
  rw [valid_sc a (by omega) (by omega)]
  simp only [Option.bind_some]
  rw [if_pos hv, if_pos (by omega), if_pos (by omega), Int.toNat_natCast]
  have := scale_l0 kk l _ a (by omega) rfl l.length k 0 true (by omega) (by omega) (by omega)
  rw [List.take_zero, List.nil_append, Nat.sub_zero, List.drop_zero, List.length_map] at this
  rw [Int.natCast_zero] at this
  rw [this]
  simp
theorem clone_f {l : List Int} (h12 : l.length ≤ 12) : Man.slices_Clone.f l = some l := by unfold Man.slices_Clone.f; exact if_pos (Nat.lt_of_le_of_lt h12 (by decide))
/-- What the loop of Put gives, number by number. -/
def putT (kk : Int) (ys zs : List Int) : List Int := List.zipWith (fun y z => if z = 0 then y else wrap64 (y + wrap64 (kk * z))) ys zs
theorem putT_len (kk : Int) (ys zs : List Int) (hl : ys.length = zs.length) : (putT kk ys zs).length = zs.length := by simp [putT, hl]
theorem putT_get (kk : Int) (ys zs : List Int) (i : Nat) (h : i < (putT kk ys zs).length) (h1 : i < ys.length) (h2 : i < zs.length) : (putT kk ys zs)[i] = if zs[i] = 0 then ys[i] else wrap64 (ys[i] + wrap64 (kk * zs[i])) := by simp [putT]
theorem fold_prs (kk : Int) (ys zs : List Int) (hl : ys.length = zs.length) : ∀ k, k ≤ zs.length →
    (((Man.prs (fun i : Fin zs.length => zs[i]) k).map fun p => ((p.1 : Nat), p.2)).foldl (Man.putStep kk) ys) = (putT kk ys zs).take k ++ ys.drop k := by
  intro k
  induction k with
  | zero => intro _; simp [Man.prs]
  | succ k ih =>
    intro hk
    have hk' : k < zs.length := by omega
    have hT := putT_len kk ys zs hl
    rw [Man.prs_succ _ k hk', List.map_append, List.foldl_append, ih (by omega), List.take_succ_eq_append_getElem (show k < (putT kk ys zs).length by omega), putT_get kk ys zs k _ (by omega) hk']
    have hd : ys.drop k = ys[k] :: ys.drop (k + 1) := List.drop_eq_getElem_cons (by omega)
    by_cases hz : zs[k] = 0
    · simp only [Fin.getElem_fin, hz, if_true, List.map_nil, List.foldl_nil]
      rw [hd, List.append_assoc]
      rfl
    · have hlen : ((putT kk ys zs).take k).length = k := by rw [List.length_take]; omega
      simp only [Fin.getElem_fin, hz, if_false, List.map_cons, List.map_nil, List.foldl_cons, List.foldl_nil, Man.putStep]
      rw [rd_nat _ k (by simp; omega), List.getElem_append_right (by omega)]
      simp only [hlen, Nat.sub_self, hd, List.getElem_cons_zero]
      rw [List.set_append_right _ _ (by omega), hlen, Nat.sub_self, List.set_cons_zero, List.append_assoc]
      rfl
theorem putLoop_f (kk k2 : Int) (ys zs : List Int) (hl : ys.length = zs.length) (h12 : zs.length ≤ 12) : Man.putLoop.f ys zs k2 kk = some (putT kk ys zs) := by
  unfold Man.putLoop.f
  rw [if_pos ⟨hl, by omega⟩, fold_prs kk ys zs hl zs.length (Nat.le_refl _), List.take_of_length_le (by rw [putT_len kk ys zs hl]; omega), List.drop_eq_nil_of_le (by omega), List.append_nil]
theorem mul_bd {x y : Int} (hx : -1048576 ≤ x ∧ x ≤ 1048576) (hy : -1048576 ≤ y ∧ y ≤ 1048576) : -1099511627776 ≤ x * y ∧ x * y ≤ 1099511627776 := by
  have h1 : (x * y).natAbs ≤ 1048576 * 1048576 := by rw [Int.natAbs_mul]; exact Nat.mul_le_mul (by omega) (by omega)
  omega
def dotz : List Int → List Int → Int
  | c :: cs, x :: xs => c * x + dotz cs xs
  | _, _ => 0
theorem wr_rep (a : Int) : ∃ t : Int, wrap64 a = a + t * 18446744073709551616 := ⟨-((a + 9223372036854775808) / 18446744073709551616), by unfold wrap64; omega⟩
theorem wr_eq {a b : Int} (t : Int) (h : a = b + t * 18446744073709551616) : wrap64 a = wrap64 b := by subst h; unfold wrap64; omega
theorem wr_wr (a : Int) : wrap64 (wrap64 a) = wrap64 a := by unfold wrap64; omega
theorem wr_add (a b : Int) : wrap64 (wrap64 a + b) = wrap64 (a + b) := by unfold wrap64; omega
theorem wr_addr (a b : Int) : wrap64 (a + wrap64 b) = wrap64 (a + b) := by unfold wrap64; omega
theorem dotz_drop (C x : List Int) (i : Nat) (h1 : i < C.length) (h2 : i < x.length) : dotz (C.drop i) (x.drop i) = C[i] * x[i] + dotz (C.drop (i + 1)) (x.drop (i + 1)) := by
  rw [List.drop_eq_getElem_cons h1, List.drop_eq_getElem_cons h2, dotz]
theorem dotz_end (C x : List Int) (i : Nat) (h : C.length ≤ i) : dotz (C.drop i) (x.drop i) = 0 := by rw [List.drop_eq_nil_of_le h]; rfl
theorem value_l0 (C x : List Int) (K : Int) (hl : C.length ≤ x.length) (h12 : C.length ≤ 100) : ∀ (d k i : Nat) (acc : Int), wrap64 acc = acc → i ≤ C.length → C.length - i = d → d < k →
    Vs.headlandref02_Value.l0 k x acc (C.length : Int) (i : Int) C K = some (wrap64 (acc + dotz (C.drop i) (x.drop i))) := by
  intro d
  induction d with
  | zero =>
    intro k i acc hacc h0 hd hk
    obtain ⟨k, rfl⟩ : ∃ m, k = m + 1 := ⟨k - 1, by omega⟩
    simp only [Vs.headlandref02_Value.l0]
    rw [if_neg (by omega), dotz_end C x i (by omega), Int.add_zero, hacc]
  | succ d ih =>
    intro k i acc hacc h0 hd hk
    obtain ⟨k, rfl⟩ : ∃ m, k = m + 1 := ⟨k - 1, by omega⟩
    have hlt : i < C.length := by omega
    have hlt2 : i < x.length := by omega
    simp only [Vs.headlandref02_Value.l0]
    rw [if_pos (show (i : Int) < (C.length : Int) by omega), if_pos (show (0 : Int) ≤ (i : Int) by omega), if_pos (show (i : Int) < (C.length : Int) by omega), if_pos (show (i : Int) < (x.length : Int) by omega), rd_nat C i hlt, rd_nat x i hlt2, w64 (n := (i : Int) + 1) (by omega) (by omega)]
    have := ih k (i + 1) (wrap64 (acc + wrap64 (C[i] * x[i]))) (wr_wr _) (by omega) (by omega) (by omega)
    rw [Int.natCast_succ] at this
    rw [this, dotz_drop C x i hlt hlt2, wr_add]
    generalize C[i] * x[i] = p
    generalize dotz (C.drop (i + 1)) (x.drop (i + 1)) = q
    congr 1
    unfold wrap64
    omega
theorem value_f (C x : List Int) (K : Int) (hl : C.length ≤ x.length) (h12 : C.length ≤ 100) (hK : -1048576 ≤ K ∧ K ≤ 1048576) (k : Nat) (hk : C.length < k) : Vs.headlandref02_Value.f k C K x = some (wrap64 (K + dotz C x)) := by
  unfold Vs.headlandref02_Value.f
  have := value_l0 C x K hl h12 C.length k 0 K (w64 (by omega) (by omega)) (by omega) (by omega) hk
  rw [List.drop_zero, List.drop_zero] at this
  exact this
theorem dotn_l0 (l x : List Int) (hl : x.length = l.length) (h12 : l.length ≤ 12) (hfit : ∀ n ∈ l, -1048576 ≤ n ∧ n ≤ 1048576) : ∀ (d k i : Nat) (acc : Int), wrap64 acc = acc → i ≤ l.length → l.length - i = d → d < k →
    ∃ s e, Bs.num_Dot.l0 k l x acc (l.length : Int) (i : Int) = some (s, e) ∧ (e = 0 → s = wrap64 (acc + dotz (l.drop i) (x.drop i))) := by
  intro d
  induction d with
  | zero =>
    intro k i acc hacc h0 hd hk
    obtain ⟨k, rfl⟩ : ∃ m, k = m + 1 := ⟨k - 1, by omega⟩
    simp only [Bs.num_Dot.l0]
    rw [if_neg (by omega), dotz_end l x i (by omega), Int.add_zero, hacc]
    exact ⟨_, _, rfl, fun _ => rfl⟩
  | succ d ih =>
    intro k i acc hacc h0 hd hk
    obtain ⟨k, rfl⟩ : ∃ m, k = m + 1 := ⟨k - 1, by omega⟩
    have hlt : i < x.length := by omega
    have hlt2 : i < l.length := by omega
    have hff : fitB l[i] = true := (fitB_iff _).2 (hfit _ (List.getElem_mem hlt2))
    simp only [Bs.num_Dot.l0, fits_sc, Option.bind_some]
    rw [if_pos (show (i : Int) < (l.length : Int) by omega), if_pos (show (0 : Int) ≤ (i : Int) by omega), if_pos (show (i : Int) < (l.length : Int) by omega), rd_nat x i hlt, rd_nat l i hlt2, if_pos hff, if_pos (show (i : Int) < (x.length : Int) by omega), w64 (n := (i : Int) + 1) (by omega) (by omega)]
    by_cases h1 : x[i] < -4294967296
    · rw [if_pos h1]
      exact ⟨_, _, rfl, fun h => by cases h⟩
    · rw [if_neg h1]
      by_cases h2 : x[i] > 4294967296
      · rw [if_pos h2]
        exact ⟨_, _, rfl, fun h => by cases h⟩
      · rw [if_neg h2]
        obtain ⟨s, e, hs, hv⟩ := ih k (i + 1) (wrap64 (acc + wrap64 (l[i] * x[i]))) (wr_wr _) (by omega) (by omega) (by omega)
        rw [Int.natCast_succ] at hs
        refine ⟨s, e, hs, fun he => ?_⟩
        rw [hv he, dotz_drop l x i hlt2 hlt, wr_add]
        generalize l[i] * x[i] = p
        generalize dotz (l.drop (i + 1)) (x.drop (i + 1)) = q
        unfold wrap64
        omega
theorem at_f (l x : List Int) (K : Int) (hm : l.length ≤ maxLen) (k : Nat) (hk : 60 + l.length ≤ k) :
    ∃ v e, Bs.lin_At.f k l K x = some (v, e) ∧ (e = 0 → valB l K = true ∧ x.length = l.length ∧ v = wrap64 (K + dotz l x)) := by
  have hM : maxLen = 9223372036854775807 := by decide
  unfold Bs.lin_At.f
  rw [valid_sc K hm (by omega), Option.bind_some]
  by_cases hv : valB l K = true
  · rw [if_pos hv]
    obtain ⟨hfit, h12, hk1⟩ := (valB_iff l K).1 hv
    unfold Bs.num_Dot.f
    by_cases he : (l.length : Int) = (x.length : Int)
    · rw [if_pos he, if_neg (by omega)]
      obtain ⟨s, e, hs, hval⟩ := dotn_l0 l x (by omega) h12 hfit l.length k 0 0 (w64 (by omega) (by omega)) (by omega) (by omega) (by omega)
      rw [Int.natCast_zero] at hs
      rw [hs, Option.bind_some]
      by_cases h0 : e = 0
      · rw [if_pos h0]
        refine ⟨_, _, rfl, fun _ => ⟨hv, by omega, ?_⟩⟩
        have := hval h0
        rw [List.drop_zero, List.drop_zero, Int.zero_add] at this
        rw [this, wr_addr]
      · rw [if_neg h0]
        exact ⟨_, _, rfl, fun h => absurd h h0⟩
    · rw [if_neg he]
      exact ⟨_, _, rfl, fun h => by cases h⟩
  · rw [if_neg hv]
    exact ⟨_, _, rfl, fun h => by cases h⟩
theorem fit_f (T : List Int) (c : Int) (h : T.length ≤ 12) (k : Nat) (hk : 30 ≤ k) : Ad.lin_fit.f k T c = some (if valB T c = true then (T, c, 0) else ([], 0, 3)) := by
  have hM : maxLen = 9223372036854775807 := by decide
  unfold Ad.lin_fit.f
  rw [valid_ad c (by omega) (by omega), Option.bind_some]
  split <;> rfl
theorem dotz_add (f : Int → Int → Int) (s : Int) (hf : ∀ p q, ∃ t : Int, f p q = p + s * q + t * 18446744073709551616) : ∀ (l m x : List Int), l.length = m.length → m.length = x.length → ∃ t : Int, dotz (List.zipWith f l m) x = dotz l x + s * dotz m x + t * 18446744073709551616
  | [], [], [], _, _ => ⟨0, by simp [dotz]⟩
  | p :: l, q :: m, z :: x, h1, h2 => by
    obtain ⟨t, ht⟩ := dotz_add f s hf l m x (by simpa using h1) (by simpa using h2)
    obtain ⟨u, hu⟩ := hf p q
    refine ⟨u * z + t, ?_⟩
    simp only [List.zipWith_cons_cons, dotz]
    rw [ht, hu, Int.add_mul, Int.add_mul, Int.mul_add, Int.add_mul, Int.mul_right_comm u 18446744073709551616 z, Int.mul_assoc s q z]
    omega
theorem dotz_scale (f : Int → Int) (s : Int) (hf : ∀ p, ∃ t : Int, f p = s * p + t * 18446744073709551616) : ∀ (l x : List Int), l.length = x.length → ∃ t : Int, dotz (l.map f) x = s * dotz l x + t * 18446744073709551616
  | [], [], _ => ⟨0, by simp [dotz]⟩
  | p :: l, z :: x, h => by
    obtain ⟨t, ht⟩ := dotz_scale f s hf l x (by simpa using h)
    obtain ⟨u, hu⟩ := hf p
    refine ⟨u * z + t, ?_⟩
    simp only [List.map_cons, dotz]
    rw [ht, hu, Int.add_mul, Int.mul_add, Int.add_mul, Int.mul_right_comm u 18446744073709551616 z, Int.mul_assoc s p z]
    omega
theorem dotz_set : ∀ (l x : List Int) (j : Nat) (n : Int) (h1 : j < l.length), l.length = x.length → dotz l (x.set j n) = dotz (l.set j 0) x + l[j] * n
  | p :: l, z :: x, 0, n, _, _ => by simp [dotz]; omega
  | p :: l, z :: x, j + 1, n, h1, h2 => by
    have := dotz_set l x j n (by simpa using h1) (by simpa using h2)
    simp only [List.set_cons_succ, dotz, List.getElem_cons_succ]
    rw [this]
    omega
theorem dotz_app : ∀ (l x m y : List Int), l.length = x.length → dotz (l ++ m) (x ++ y) = dotz l x + dotz m y
  | [], [], m, y, _ => by simp [dotz]
  | p :: l, z :: x, m, y, h => by
    simp only [List.cons_append, dotz]
    rw [dotz_app l x m y (by simpa using h)]
    omega
section
variable (l m x : List Int) (a b : Int) (hva : valB l a = true) (hvb : valB m b = true) (hx : x.length = l.length) (hy : x.length = m.length) (k : Nat) (hk : 70 ≤ k)
include hva hvb hx hy hk
theorem add_vs : ∃ r1 r2 r3, Ad.lin_Add.f k l a m b = some (r1, r2, r3) ∧ (r3 = 0 → Vs.headlandref02_Value.f k r1 r2 x = some (wrap64 (wrap64 (a + dotz l x) + wrap64 (b + dotz m x)))) := by
  have hM : maxLen = 9223372036854775807 := by decide
  obtain ⟨l1, h12, l3⟩ := (valB_iff l a).1 hva
  obtain ⟨m1, m12, m3⟩ := (valB_iff m b).1 hvb
  unfold Ad.lin_Add.f Ad.lin_joined_Add_1.f
  rw [valid_ad a (by omega) (by omega), valid_ad b (by omega) (by omega)]
  obtain ⟨k, rfl⟩ : ∃ m, k = m + 1 := ⟨k - 1, by omega⟩
  have h3 : l.length = m.length := by omega
  have hb : Ad.lin_both_int_Add_1.f k l m = some (List.zipWith (fun x y => wrap64 (x + y)) l m) := by
    unfold Ad.lin_both_int_Add_1.f
    rw [if_pos (by omega), if_pos (by omega), Int.toNat_natCast]
    have := both_add_l0 l m (List.zipWith (fun x y => wrap64 (x + y)) l m) (by omega) h3.symm (by simp [h3]) (by intro i h; simp) l.length k 0 (by omega) (by omega) (by omega)
    rw [List.take_zero, List.nil_append, Nat.sub_zero, List.length_zipWith, show min l.length m.length = l.length by omega] at this
    exact this
  have h3' : (l.length : Int) = (m.length : Int) := by omega
  simp only [Option.bind_some, Ad.lin_joined_Add_1.j0, Ad.lin_Add_1.f, hva, hvb, h3', if_true, Bool.not_true, Bool.false_eq_true, if_false, hb]
  have hlen : (List.zipWith (fun x y => wrap64 (x + y)) l m).length = l.length := by simp [h3]
  rw [fit_f _ _ (by rw [hlen]; exact h12) k (by omega)]
  by_cases hc : valB (List.zipWith (fun x y => wrap64 (x + y)) l m) (wrap64 (a + b)) = true
  · rw [if_pos hc]
    obtain ⟨c1, c12, c3⟩ := (valB_iff _ _).1 hc
    refine ⟨List.zipWith (fun x y => wrap64 (x + y)) l m, wrap64 (a + b), 0, rfl, fun _ => ?_⟩
    rw [value_f _ x _ (by rw [hlen]; omega) (by omega) c3 (k + 1) (by omega)]
    obtain ⟨t, ht⟩ := dotz_add (fun x y => wrap64 (x + y)) 1 (fun p q => by obtain ⟨t, ht⟩ := wr_rep (p + q); exact ⟨t, by rw [ht]; omega⟩) l m x h3 (by omega)
    rw [ht, wr_add, wr_addr, wr_add]
    congr 1
    exact wr_eq t (by omega)
  · rw [if_neg hc]
    exact ⟨_, _, _, rfl, fun h => by cases h⟩
theorem sub_vs : ∃ r1 r2 r3, Ad.lin_Sub.f k l a m b = some (r1, r2, r3) ∧ (r3 = 0 → Vs.headlandref02_Value.f k r1 r2 x = some (wrap64 (wrap64 (a + dotz l x) - wrap64 (b + dotz m x)))) := by
  have hM : maxLen = 9223372036854775807 := by decide
  obtain ⟨l1, h12, l3⟩ := (valB_iff l a).1 hva
  obtain ⟨m1, m12, m3⟩ := (valB_iff m b).1 hvb
  unfold Ad.lin_Sub.f Ad.lin_joined_Sub_1.f
  rw [valid_ad a (by omega) (by omega), valid_ad b (by omega) (by omega)]
  obtain ⟨k, rfl⟩ : ∃ m, k = m + 1 := ⟨k - 1, by omega⟩
  have h3 : l.length = m.length := by omega
  have hb : Ad.lin_both_int_Sub_1.f k l m = some (List.zipWith (fun x y => wrap64 (x - y)) l m) := by
    unfold Ad.lin_both_int_Sub_1.f
    rw [if_pos (by omega), if_pos (by omega), Int.toNat_natCast]
    have := both_sub_l0 l m (List.zipWith (fun x y => wrap64 (x - y)) l m) (by omega) h3.symm (by simp [h3]) (by intro i h; simp) l.length k 0 (by omega) (by omega) (by omega)
    rw [List.take_zero, List.nil_append, Nat.sub_zero, List.length_zipWith, show min l.length m.length = l.length by omega] at this
    exact this
  have h3' : (l.length : Int) = (m.length : Int) := by omega
  simp only [Option.bind_some, Ad.lin_joined_Sub_1.j0, Ad.lin_Sub_1.f, hva, hvb, h3', if_true, Bool.not_true, Bool.false_eq_true, if_false, hb]
  have hlen : (List.zipWith (fun x y => wrap64 (x - y)) l m).length = l.length := by simp [h3]
  rw [fit_f _ _ (by rw [hlen]; exact h12) k (by omega)]
  by_cases hc : valB (List.zipWith (fun x y => wrap64 (x - y)) l m) (wrap64 (a - b)) = true
  · rw [if_pos hc]
    obtain ⟨c1, c12, c3⟩ := (valB_iff _ _).1 hc
    refine ⟨List.zipWith (fun x y => wrap64 (x - y)) l m, wrap64 (a - b), 0, rfl, fun _ => ?_⟩
    rw [value_f _ x _ (by rw [hlen]; omega) (by omega) c3 (k + 1) (by omega)]
    obtain ⟨t, ht⟩ := dotz_add (fun x y => wrap64 (x - y)) (-1) (fun p q => by obtain ⟨t, ht⟩ := wr_rep (p - q); exact ⟨t, by rw [ht]; omega⟩) l m x h3 (by omega)
    rw [ht, wr_add]
    congr 1
    obtain ⟨u, hu⟩ := wr_rep (a + dotz l x)
    obtain ⟨v, hv⟩ := wr_rep (b + dotz m x)
    rw [hu, hv]
    exact wr_eq (t - u + v) (by omega)
  · rw [if_neg hc]
    exact ⟨_, _, _, rfl, fun h => by cases h⟩
end
theorem times_rep (n kk : Int) (h : (times n kk).2 = true) : ∃ t : Int, (times n kk).1 = kk * n + t * 18446744073709551616 := by
  unfold times at h ⊢
  by_cases h0 : n = 0 ∨ kk = 0
  · rw [if_pos h0]
    exact ⟨0, by rcases h0 with h | h <;> simp [h]⟩
  · rw [if_neg h0] at h ⊢
    by_cases h1 : fitB kk = true
    · rw [if_pos h1]
      obtain ⟨t, ht⟩ := wr_rep (n * kk)
      exact ⟨t, by show wrap64 (n * kk) = _; rw [ht, Int.mul_comm n kk]⟩
    · rw [if_neg h1] at h
      cases h
theorem dotz_scale' (f : Int → Int) (s : Int) : ∀ (l x : List Int), (∀ p ∈ l, ∃ t : Int, f p = s * p + t * 18446744073709551616) → l.length = x.length → ∃ t : Int, dotz (l.map f) x = s * dotz l x + t * 18446744073709551616
  | [], [], _, _ => ⟨0, by simp [dotz]⟩
  | p :: l, z :: x, hf, h => by
    obtain ⟨t, ht⟩ := dotz_scale' f s l x (fun q hq => hf q (List.mem_cons_of_mem _ hq)) (by simpa using h)
    obtain ⟨u, hu⟩ := hf p List.mem_cons_self
    refine ⟨u * z + t, ?_⟩
    simp only [List.map_cons, dotz]
    rw [ht, hu, Int.add_mul, Int.mul_add, Int.add_mul, Int.mul_right_comm u 18446744073709551616 z, Int.mul_assoc s p z]
    omega
theorem times_fit (n kk : Int) (hn : -1048576 ≤ n ∧ n ≤ 1048576) (h : (times n kk).2 = true) : -1048576 ≤ (times n kk).1 ∧ (times n kk).1 ≤ 1048576 := by
  unfold times at h ⊢
  by_cases h0 : n = 0 ∨ kk = 0
  · rw [if_pos h0]; exact ⟨by decide, by decide⟩
  · rw [if_neg h0] at h ⊢
    by_cases h1 : fitB kk = true
    · rw [if_pos h1] at h ⊢
      exact (fitB_iff _).1 h
    · rw [if_neg h1] at h
      cases h
theorem scale_vs (l x : List Int) (a kk : Int) (hva : valB l a = true) (hx : x.length = l.length) (k : Nat) (hk : 70 ≤ k) : ∃ r1 r2 r3, Sc.lin_Scale.f k l a kk = some (r1, r2, r3) ∧ (r3 = 0 → Vs.headlandref02_Value.f k r1 r2 x = some (wrap64 (wrap64 (a + dotz l x) * kk))) := by
  obtain ⟨l1, h12, l3⟩ := (valB_iff l a).1 hva
  rw [scale_f l a kk h12 hva k (by omega)]
  by_cases hc : (l.all fun n => (times n kk).2) = true ∧ (times a kk).2 = true
  · rw [if_pos hc]
    refine ⟨l.map fun n => (times n kk).1, (times a kk).1, 0, rfl, fun _ => ?_⟩
    rw [value_f _ x _ (by simp; omega) (by simp; omega) (times_fit a kk l3 hc.2) k (by simp; omega)]
    obtain ⟨t, ht⟩ := dotz_scale' (fun n => (times n kk).1) kk l x (fun p hp => times_rep p kk (List.all_eq_true.1 hc.1 p hp)) (by omega)
    obtain ⟨u, hu⟩ := times_rep a kk hc.2
    obtain ⟨v, hv⟩ := wr_rep (a + dotz l x)
    rw [ht, hu, hv]
    congr 1
    refine wr_eq (t + u - v * kk) ?_
    rw [Int.add_mul, Int.add_mul, Int.mul_right_comm v 18446744073709551616 kk, Int.mul_comm a kk, Int.mul_comm (dotz l x) kk, Int.sub_mul, Int.add_mul]
    omega
  · rw [if_neg hc]
    exact ⟨_, _, _, rfl, fun h => by cases h⟩
theorem putT_eq (kk : Int) (ys zs : List Int) : putT kk ys zs = List.zipWith (fun y z => if z = 0 then y else wrap64 (y + wrap64 (kk * z))) ys zs := rfl
theorem put_vs (l m x : List Int) (a b i : Int) (hva : valB l a = true) (hvb : valB m b = true) (hx : x.length = l.length) (hy : x.length = m.length) (k : Nat) (hk : 90 ≤ k) :
    ∃ r1 r2 r3, Pu.lin_Put.f k l a i m b = some (r1, r2, r3) ∧ (r3 = 0 → 0 ≤ i ∧ i < x.length ∧ x.length < 17592186044000 ∧ ∃ v h, Bs.lin_At.f k l a (x.set i.toNat (wrap64 (b + dotz m x))) = some (v, h) ∧ (h = 0 → Vs.headlandref02_Value.f k r1 r2 x = some v)) := by
  have hM : maxLen = 9223372036854775807 := by decide
  obtain ⟨l1, h12, l3⟩ := (valB_iff l a).1 hva
  obtain ⟨m1, m12, m3⟩ := (valB_iff m b).1 hvb
  unfold Pu.lin_Put.f
  rw [valid_ad a (by omega) (by omega), valid_ad b (by omega) (by omega)]
  obtain ⟨k', rfl⟩ : ∃ m, k = m + 2 := ⟨k - 2, by omega⟩
  have h3 : l.length = m.length := by omega
  have h3' : (l.length : Int) = (m.length : Int) := by omega
  simp only [Option.bind_some, Pu.lin_Put.j0, Pu.lin_Put.j1, hva, hvb, h3', if_true, Bool.not_true, Bool.false_eq_true, if_false]
  by_cases i0 : i < 0
  · rw [if_pos i0]
    exact ⟨_, _, _, rfl, fun h => by cases h⟩
  · rw [if_neg i0]
    by_cases i1 : i ≥ (m.length : Int)
    · rw [if_pos (decide_eq_true i1)]
      exact ⟨_, _, _, rfl, fun h => by cases h⟩
    · obtain ⟨j, rfl⟩ : ∃ j : Nat, i = (j : Int) := ⟨i.toNat, by omega⟩
      have hj : j < l.length := by omega
      have hsl : (l.set j 0).length = m.length := by simp [h3]
      rw [decide_eq_false i1, if_neg Bool.false_ne_true, clone_f h12, Option.bind_some, if_pos (show (0 : Int) ≤ (j : Int) by omega), if_pos (show (j : Int) < (m.length : Int) by omega), if_pos (show (j : Int) < (l.length : Int) by omega), rd_nat l j hj, Int.toNat_natCast, putLoop_f _ _ _ _ hsl m12, Option.bind_some]
      have hput : (putT l[j] (l.set j 0) m).length = m.length := putT_len _ _ _ hsl
      rw [fit_f _ _ (by omega) k' (by omega)]
      by_cases hc : valB (putT l[j] (l.set j 0) m) (wrap64 (a + wrap64 (l[j] * b))) = true
      · rw [if_pos hc]
        obtain ⟨c1, c12, c3⟩ := (valB_iff _ _).1 hc
        refine ⟨putT l[j] (l.set j 0) m, wrap64 (a + wrap64 (l[j] * b)), 0, rfl, fun _ => ⟨by omega, by omega, by omega, ?_⟩⟩
        obtain ⟨v, h, hat, hval⟩ := at_f l (x.set j (wrap64 (b + dotz m x))) a (by omega) (k' + 2) (by omega)
        refine ⟨v, h, hat, fun h0 => ?_⟩
        rw [value_f _ x _ (by omega) (by omega) c3 (k' + 2) (by omega), (hval h0).2.2, dotz_set l x j _ hj (by omega)]
        obtain ⟨t, ht⟩ := dotz_add (fun y z => if z = 0 then y else wrap64 (y + wrap64 (l[j] * z))) l[j] (fun p q => by
          by_cases hq : q = 0
          · exact ⟨0, by simp [hq]⟩
          · rw [if_neg hq]
            obtain ⟨t, ht⟩ := wr_rep (l[j] * q)
            obtain ⟨u, hu⟩ := wr_rep (p + wrap64 (l[j] * q))
            exact ⟨t + u, by rw [hu, ht]; omega⟩) (l.set j 0) m x hsl (by omega)
        rw [putT_eq, ht]
        obtain ⟨u, hu⟩ := wr_rep (b + dotz m x)
        obtain ⟨v1, hv1⟩ := wr_rep (l[j] * b)
        rw [hu, wr_add, hv1]
        congr 1
        refine wr_eq (t + v1 - l[j] * u) ?_
        rw [Int.mul_add l[j] (b + dotz m x), Int.mul_add l[j] b, ← Int.mul_assoc l[j] u, Int.sub_mul, Int.add_mul]
        omega
      · rw [if_neg hc]
        exact ⟨_, _, _, rfl, fun h => by cases h⟩
theorem room_vs (l x : List Int) (a i : Int) (hva : valB l a = true) (hx : x.length = l.length) (k : Nat) (hk : 90 ≤ k) :
    ∃ r1 r2 r3, Cr.lin_Room.f k l a i 1 = some (r1, r2, r3) ∧ (r3 = 0 → 0 ≤ i ∧ i ≤ x.length ∧ x.length < 17592186044000 ∧ ∃ s1 s2, Cr.lin_Cut.f k r1 r2 i = some (s1, s2, 0) ∧ Vs.headlandref02_Value.f k r1 r2 (x.take i.toNat ++ [7] ++ x.drop i.toNat) = some (wrap64 (a + dotz l x)) ∧ Bs.headlandref02_Same.f k s1 s2 l a = some true) := by
  have hM : maxLen = 9223372036854775807 := by decide
  obtain ⟨l1, h12, l3⟩ := (valB_iff l a).1 hva
  unfold Cr.lin_Room.f
  rw [valid_ad a (by omega) (by omega)]
  obtain ⟨k', rfl⟩ : ∃ m, k = m + 1 := ⟨k - 1, by omega⟩
  simp only [Option.bind_some, Cr.lin_Room.j0, hva, if_true]
  by_cases i0 : i < 0
  · rw [if_pos i0]
    exact ⟨_, _, _, rfl, fun h => by cases h⟩
  · rw [if_neg i0]
    by_cases i1 : i > (l.length : Int)
    · rw [if_pos i1]
      exact ⟨_, _, _, rfl, fun h => by cases h⟩
    · rw [if_neg i1, decide_eq_false (show ¬ ((1 : Int) < 0) by omega), if_neg Bool.false_ne_true, w64 (n := 12 - (l.length : Int)) (by omega) (by omega)]
      by_cases n1 : (1 : Int) > 12 - (l.length : Int)
      · rw [if_pos n1]
        exact ⟨_, _, _, rfl, fun h => by cases h⟩
      · obtain ⟨j, rfl⟩ : ∃ j : Nat, i = (j : Int) := ⟨i.toNat, by omega⟩
        have hj : j ≤ l.length := by omega
        have hins : Man.slices_Insert.f l (j : Int) (List.replicate ((1 : Int)).toNat 0) = some (l.take j ++ [0] ++ l.drop j) := by
          unfold Man.slices_Insert.f
          rw [if_pos (show (0 : Int) ≤ (j : Int) ∧ (j : Int) ≤ (l.length : Int) ∧ l.length + (List.replicate ((1 : Int)).toNat (0 : Int)).length ≤ 24 from ⟨by omega, by omega, by simp; omega⟩), Int.toNat_natCast]
          rfl
        rw [if_neg n1, clone_f h12, Option.bind_some, if_pos (show (0 : Int) ≤ 1 by omega), if_pos (show ((1 : Int)).toNat ≤ 35184372088832 by decide), hins, Option.bind_some]
        refine ⟨l.take j ++ [0] ++ l.drop j, a, 0, rfl, fun _ => ⟨by omega, by omega, by omega, l, a, ?_, ?_, same_refl a (by omega) (by omega)⟩⟩
        · have hlen : (l.take j ++ [0] ++ l.drop j).length = l.length + 1 := by simp; omega
          have hval : valB (l.take j ++ [0] ++ l.drop j) a = true := by
            refine (valB_iff _ _).2 ⟨fun y hy => ?_, by omega, l3⟩
            simp only [List.mem_append, List.mem_singleton] at hy
            rcases hy with (hy | hy) | hy
            · exact l1 y (List.mem_of_mem_take hy)
            · subst hy; exact ⟨by decide, by decide⟩
            · exact l1 y (List.mem_of_mem_drop hy)
          have hget : (l.take j ++ [0] ++ l.drop j)[j]'(by omega) = 0 := by
            have htl : (l.take j).length = j := by rw [List.length_take]; omega
            rw [List.getElem_append_left (by simp; omega), List.getElem_append_right (by omega)]
            simp [htl]
          have her : (l.take j ++ [0] ++ l.drop j).eraseIdx j = l := by
            have htl : (l.take j).length = j := by rw [List.length_take]; omega
            rw [List.append_assoc, List.eraseIdx_append_of_length_le (by omega), htl, Nat.sub_self, List.singleton_append, List.eraseIdx_cons_zero, List.take_append_drop]
          unfold Cr.lin_Cut.f
          rw [valid_ad a (by omega) (by omega), Option.bind_some, if_pos hval, if_neg (show ¬ ((j : Int) < 0) by omega)]
          simp only [Cr.lin_Cut.j0]
          have h10 : (j : Int) < ((l.take j ++ [0] ++ l.drop j).length : Int) := by omega
          have h9 : ¬ ((j : Int) ≥ ((l.take j ++ [0] ++ l.drop j).length : Int)) := by omega
          rw [decide_eq_false h9, if_neg Bool.false_ne_true, if_pos (show (0 : Int) ≤ (j : Int) by omega), if_pos h10, rd_nat _ j (by omega), if_pos hget, clone_f (by omega), Option.bind_some]
          have hdel : Man.slices_Delete.f (l.take j ++ [0] ++ l.drop j) (j : Int) (wrap64 ((j : Int) + 1)) = some l := by
            unfold Man.slices_Delete.f
            rw [w64 (n := (j : Int) + 1) (by omega) (by omega), Int.toNat_natCast, her]
            exact if_pos (show (0 : Int) ≤ (j : Int) ∧ (j : Int) + 1 = (j : Int) + 1 ∧ (j : Int) < ((l.take j ++ [0] ++ l.drop j).length : Int) ∧ (l.take j ++ [0] ++ l.drop j).length ≤ 12 from ⟨by omega, rfl, by omega, by omega⟩)
          rw [hdel, Option.bind_some]
        · rw [Int.toNat_natCast, value_f _ _ _ (by simp; omega) (by simp; omega) l3 (k' + 1) (by simp; omega), dotz_app _ _ _ _ (by simp; omega), dotz_app _ _ _ _ (by simp; omega)]
          have := dotz_app (l.take j) (x.take j) (l.drop j) (x.drop j) (by simp; omega)
          rw [List.take_append_drop, List.take_append_drop] at this
          rw [this]
          simp [dotz]
theorem walkValues (a0 : Option Addr) (len0 cap0 : Nat) (z0 : List Int) (b0 : Int) (a1 : Option Addr) (len1 cap1 : Nat) (z1 : List Int) (b1 : Int) (kk i : Int) (a4 : Option Addr) (len4 cap4 : Nat) (z4 : List Int) (w : World)
    (w0 : (a0 = none ∧ len0 = 0 ∧ cap0 = 0 ∧ z0 = []) ∨ ∃ x, a0 = some x ∧ len0 ≤ cap0 ∧ cap0 ≤ maxLen ∧ z0.length = cap0 ∧ (∀ i, i < z0.length → w.cell? (x.add i) = some (.int .i64 (z0.getD i 0))) ∧ ∀ n ∈ z0, (Lit.int .i64 n).wf = true) (x0 : (Lit.int .i64 b0).wf = true)
    (w1 : (a1 = none ∧ len1 = 0 ∧ cap1 = 0 ∧ z1 = []) ∨ ∃ x, a1 = some x ∧ len1 ≤ cap1 ∧ cap1 ≤ maxLen ∧ z1.length = cap1 ∧ (∀ i, i < z1.length → w.cell? (x.add i) = some (.int .i64 (z1.getD i 0))) ∧ ∀ n ∈ z1, (Lit.int .i64 n).wf = true) (x1 : (Lit.int .i64 b1).wf = true)
    (x2 : (Lit.int .i64 kk).wf = true) (x3 : (Lit.int .i64 i).wf = true)
    (w4 : (a4 = none ∧ len4 = 0 ∧ cap4 = 0 ∧ z4 = []) ∨ ∃ x, a4 = some x ∧ len4 ≤ cap4 ∧ cap4 ≤ maxLen ∧ z4.length = cap4 ∧ (∀ i, i < z4.length → w.cell? (x.add i) = some (.int .i64 (z4.getD i 0))) ∧ ∀ n ∈ z4, (Lit.int .i64 n).wf = true) (y4 : len4 * 8 ≤ 140737488351232) :
    Calls Try.prog 8 #[.agg #[.slice a0 len0 cap0, .int .i64 b0], .agg #[.slice a1 len1 cap1, .int .i64 b1], .int .i64 kk, .int .i64 i, .slice a4 len4 cap4] w fun e w' => e = .returned (.bool true) ∧ Below w.heap.size w w' := by
  have hM : maxLen = 9223372036854775807 := by decide
  obtain ⟨l0, rfl, hr0, hm0, hw0, hc0⟩ := ReadsInt.ofRowC w0
  obtain ⟨l1, rfl, hr1, hm1, hw1, hc1⟩ := ReadsInt.ofRowC w1
  obtain ⟨l4, rfl, hr4, hm4, hw4, hc4⟩ := ReadsInt.ofRowC w4
  obtain ⟨m, e, hA, hAe⟩ := at_f l0 l4 b0 hm0 (100 + l0.length + l1.length) (by omega)
  obtain ⟨n, f, hB, hBe⟩ := at_f l1 l4 b1 hm1 (100 + l0.length + l1.length) (by omega)
  refine Vw.values_walk (100 + l0.length + l1.length) a0 cap0 l0 b0 a1 cap1 l1 b1 kk i a4 cap4 l4 w (Kd.C_of_reads (d := (0 : Int)) (h1 := fun _ => rfl) hr0) hc0 (Kd.C_of_reads (d := (0 : Int)) (h1 := fun _ => rfl) hr1) hc1 (Kd.C_of_reads (d := (0 : Int)) (h1 := fun _ => rfl) hr4) hc4 m e n f hA hB ?_ ?_ ?_ ?_ ?_ ?_
  · have := awake_ge (40 + l0.length + l1.length)
    rw [show 60 + (40 + l0.length + l1.length) = 100 + l0.length + l1.length by omega] at this
    exact this
  all_goals
    intro he hf
    obtain ⟨e1, e2, e3⟩ := hAe he
    obtain ⟨f1, f2, f3⟩ := hBe hf
    subst e3
    subst f3
  · exact add_vs l0 l1 l4 b0 b1 e1 f1 e2 f2 _ (by omega)
  · exact sub_vs l0 l1 l4 b0 b1 e1 f1 e2 f2 _ (by omega)
  · exact scale_vs l0 l4 b0 kk e1 e2 _ (by omega)
  · exact put_vs l0 l1 l4 b0 b1 i e1 f1 e2 f2 _ (by omega)
  · exact room_vs l0 l4 b0 i e1 e2 _ (by omega)
end Go.Proofs.Ytmafphfajgoojaa.Lp
