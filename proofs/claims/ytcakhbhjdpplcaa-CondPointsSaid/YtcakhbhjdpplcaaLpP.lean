/- The plain law behind CondPoints, and the walk in the form that the row asks for. -/
import Derived.Test.YtcakhbhjdpplcaaLpH
import Derived.Test.YtcakhbhjdpplcaaHo3
namespace Go.Proofs.Ytcakhbhjdpplcaa.Lp
open Go.RowKit Go.Proofs.Ytcakhbhjdpplcaa.Aa Go.Proofs.Ytcakhbhjdpplcaa.Man Go.Proofs.Ytcakhbhjdpplcaa.Nr Go.Proofs.Ytcakhbhjdpplcaa.Ho Go.Proofs.YtcakhbhjdpplcaaW.PrintWords Go.Proofs.YtcakhbhjdpplcaaW.PrintLast
set_option linter.unusedVariables false
set_option linter.unusedSimpArgs false
/-- The sum of products. -/
def dot : List Int → List Int → Int
  | c :: l, n :: x => c * n + dot l x
  | _, _ => 0
theorem prod_bd {a b : Int} (ha : -1048576 ≤ a ∧ a ≤ 1048576) (hb : -4294967296 ≤ b ∧ b ≤ 4294967296) : -4503599627370496 ≤ a * b ∧ a * b ≤ 4503599627370496 := by
  have h1 : (a * b).natAbs ≤ 1048576 * 4294967296 := by rw [Int.natAbs_mul]; exact Nat.mul_le_mul (by omega) (by omega)
  omega
theorem dot_bd : ∀ (l x : List Int) (n : Nat), l.length ≤ n → (∀ c ∈ l, -1048576 ≤ c ∧ c ≤ 1048576) → (∀ c ∈ x, -4294967296 ≤ c ∧ c ≤ 4294967296) → -4503599627370496 * n ≤ dot l x ∧ dot l x ≤ 4503599627370496 * n
  | [], _, n, _, _, _ => by simp only [dot]; omega
  | _ :: _, [], n, _, _, _ => by simp only [dot]; omega
  | c :: l, m :: x, n, hn, hl, hx => by
    obtain ⟨n, rfl⟩ : ∃ k, n = k + 1 := ⟨n - 1, by simp at hn; omega⟩
    have h1 := dot_bd l x n (by simpa using hn) (fun a h => hl a (List.mem_cons_of_mem _ h)) (fun a h => hx a (List.mem_cons_of_mem _ h))
    have h2 := prod_bd (hl c List.mem_cons_self) (hx m List.mem_cons_self)
    simp only [dot]
    omega
theorem value_l0 (l x : List Int) (K : Int) (hl : x.length = l.length) (h12 : l.length ≤ 12) (hfit : ∀ n ∈ l, -1048576 ≤ n ∧ n ≤ 1048576) (hc : ∀ c ∈ x, -4294967296 ≤ c ∧ c ≤ 4294967296) : ∀ (d k i : Nat) (acc : Int), i ≤ l.length → l.length - i = d → d < k →
    -1048576 - 4503599627370496 * i ≤ acc ∧ acc ≤ 1048576 + 4503599627370496 * i → headlandref02_Value.l0 k x acc (l.length : Int) (i : Int) l K = some (acc + dot (l.drop i) (x.drop i)) := by
  intro d
  induction d with
  | zero =>
    intro k i acc h0 hd hk hacc
    obtain ⟨k, rfl⟩ : ∃ m, k = m + 1 := ⟨k - 1, by omega⟩
    simp only [headlandref02_Value.l0]
    rw [if_neg (by omega), List.drop_of_length_le (by omega)]
    simp [dot]
  | succ d ih =>
    intro k i acc h0 hd hk hacc
    obtain ⟨k, rfl⟩ : ∃ m, k = m + 1 := ⟨k - 1, by omega⟩
    have hlt : i < x.length := by omega
    have hlt2 : i < l.length := by omega
    have hp := prod_bd (hfit _ (List.getElem_mem hlt2)) (hc _ (List.getElem_mem hlt))
    simp only [headlandref02_Value.l0]
    rw [if_pos (by omega), if_pos (by omega), if_pos (by omega), if_pos (by omega), rd_nat l i hlt2, rd_nat x i hlt, List.drop_eq_getElem_cons hlt, List.drop_eq_getElem_cons hlt2]
    generalize hq : l[i] * x[i] = q at *
    rw [w64 (n := (i : Int) + 1) (by omega) (by omega), w64 (n := q) (by omega) (by omega), w64 (n := acc + q) (by omega) (by omega)]
    have := ih k (i + 1) (acc + q) (by omega) (by omega) (by omega) (by omega)
    rw [Int.natCast_succ] at this
    rw [this]
    simp only [dot, hq]
    congr 1
    omega
theorem value_f (l x : List Int) (K : Int) (hl : x.length = l.length) (h12 : l.length ≤ 12) (hfit : ∀ n ∈ l, -1048576 ≤ n ∧ n ≤ 1048576) (hK : -1048576 ≤ K ∧ K ≤ 1048576) (hc : ∀ c ∈ x, -4294967296 ≤ c ∧ c ≤ 4294967296) (k : Nat) (hk : 20 ≤ k) :
    headlandref02_Value.f k l K x = some (K + dot l x) := by
  have := value_l0 l x K hl h12 hfit hc l.length k 0 K (by omega) (by omega) (by omega) (by omega)
  rw [List.drop_zero, List.drop_zero] at this
  exact this
/-- All coefficients divided. -/
theorem dot_quo (g : Int) : ∀ (l x : List Int), (∀ c ∈ l, -1048576 ≤ c ∧ c ≤ 1048576) → (∀ c ∈ l, g ∣ c) → dot l x = g * dot (quo l g) x
  | [], _, _, _ => by simp [dot, quo]
  | _ :: _, [], _, _ => by simp [dot, quo]
  | c :: l, m :: x, hf, hd => by
    have ih := dot_quo g l x (fun a h => hf a (List.mem_cons_of_mem _ h)) (fun a h => hd a (List.mem_cons_of_mem _ h))
    have e : quo (c :: l) g = wrap64 (Int.tdiv c g) :: quo l g := rfl
    have hb := tdiv_bd c g
    have hc := hf c List.mem_cons_self
    have hg : g * Int.tdiv c g = c := Int.mul_tdiv_cancel' (hd c List.mem_cons_self)
    rw [e]
    simp only [dot]
    rw [w64 (by omega) (by omega), ih, Int.mul_add, ← Int.mul_assoc, hg]
theorem gfold_dvd (l : List Int) : ∀ g, gfold g l ∣ g ∧ ∀ x ∈ l, gfold g l ∣ x.natAbs := by
  induction l with
  | nil => intro g; exact ⟨Nat.dvd_refl _, fun x hx => by cases hx⟩
  | cons a l ih =>
    intro g
    obtain ⟨h1, h2⟩ := ih (Nat.gcd g a.natAbs)
    refine ⟨Nat.dvd_trans h1 (Nat.gcd_dvd_left _ _), fun x hx => ?_⟩
    rcases List.mem_cons.1 hx with rfl | hx
    · exact Nat.dvd_trans h1 (Nat.gcd_dvd_right _ _)
    · exact h2 x hx
theorem gfold_dvd_int (l : List Int) (g : Nat) : ∀ x ∈ l, ((gfold g l : Nat) : Int) ∣ x := fun x hx => Int.ofNat_dvd_left.2 ((gfold_dvd l g).2 x hx)
theorem dot_zero : ∀ (l x : List Int), (∀ c ∈ l, c = 0) → dot l x = 0
  | [], _, _ => by simp [dot]
  | _ :: _, [], _ => by simp [dot]
  | c :: l, m :: x, h => by
    simp only [dot]
    rw [dot_zero l x (fun a ha => h a (List.mem_cons_of_mem _ ha)), h c List.mem_cons_self]
    simp
theorem gfold_zero {l : List Int} (h : gfold 0 l = 0) : ∀ c ∈ l, c = 0 := by
  intro c hc
  have := (gfold_dvd l 0).2 c hc
  rw [h] at this
  have := Nat.eq_zero_of_zero_dvd this
  omega
/-- The common divisor of what is divided by it is 1. -/
theorem gfold_quo (s : Int) (g0 : Nat) (l : List Int) (hf : ∀ c ∈ l, -1048576 ≤ c ∧ c ≤ 1048576) (hd : ∀ c ∈ l, s ∣ c) : ∀ g : Nat, gfold (g * s.natAbs) l = gfold g (quo l s) * s.natAbs := by
  induction l with
  | nil => intro g; rfl
  | cons c l ih =>
    intro g
    have ih' := ih (fun a h => hf a (List.mem_cons_of_mem _ h)) (fun a h => hd a (List.mem_cons_of_mem _ h))
    have e : quo (c :: l) s = wrap64 (Int.tdiv c s) :: quo l s := rfl
    have hb := tdiv_bd c s
    have hc := hf c List.mem_cons_self
    have hg : s * Int.tdiv c s = c := Int.mul_tdiv_cancel' (hd c List.mem_cons_self)
    rw [e]
    show gfold (Nat.gcd (g * s.natAbs) c.natAbs) l = gfold (Nat.gcd g (wrap64 (Int.tdiv c s)).natAbs) (quo l s) * s.natAbs
    rw [w64 (by omega) (by omega), ← ih']
    congr 1
    conv => lhs; rw [← hg, Int.natAbs_mul, Nat.mul_comm s.natAbs]
    rw [Nat.gcd_mul_right]
theorem quo_one (l : List Int) (hf : ∀ c ∈ l, -1048576 ≤ c ∧ c ≤ 1048576) : quo l 1 = l := by
  unfold quo
  have : ∀ n ∈ l, wrap64 (Int.tdiv n 1) = n := fun n hn => by have := hf n hn; rw [Int.tdiv_one, w64 (by omega) (by omega)]
  exact (List.map_congr_left this).trans (List.map_id' l)
theorem flo_one (K : Int) (hK : -1048576 ≤ K ∧ K ≤ 1048576) : flo K 1 = K := by
  unfold flo
  rw [Int.tmod_one, if_neg (by omega), Int.tdiv_one, w64 (by omega) (by omega)]
theorem flo_spec (K g : Int) (hg : 1 ≤ g) (hK : -1048576 ≤ K ∧ K ≤ 1048576) : 0 ≤ K - g * flo K g ∧ K - g * flo K g < g := by
  have h1 := tdiv_bd K g
  have h2 := Int.mul_tdiv_add_tmod K g
  have hb := Int.lt_tmod_of_pos K (show 0 < g by omega)
  have ha := Int.tmod_lt_of_pos K (show 0 < g by omega)
  unfold flo
  rw [w64 (n := Int.tdiv K g) (by omega) (by omega)]
  split
  · rw [w64 (by omega) (by omega), Int.mul_sub]
    omega
  · omega
theorem ge_iff (K g S : Int) (hg : 1 ≤ g) (hK : -1048576 ≤ K ∧ K ≤ 1048576) : flo K g + S ≥ 0 ↔ K + g * S ≥ 0 := by
  have h := flo_spec K g hg hK
  have e : K + g * S = (K - g * flo K g) + g * (flo K g + S) := by rw [Int.mul_add]; omega
  rw [e]
  generalize flo K g + S = t at *
  constructor
  · intro ht
    have := Int.mul_nonneg (show (0 : Int) ≤ g by omega) ht
    omega
  · intro ht
    by_cases c : t ≥ 0
    · exact c
    · have := Int.mul_le_mul_of_nonneg_left (show t ≤ -1 by omega) (show (0 : Int) ≤ g by omega)
      omega
def isv (c M v : Int) : Bool := if c = 0 then decide (v ≥ 0) else if c = 1 then v == 0 else (Int.tmod v M == 0)
/-- A normal form is right at a point, and normal. -/
def Good (c M : Int) (l : List Int) (K : Int) (x : List Int) (r : Int × Int × List Int × Int × Int) : Prop :=
  (r.2.2.2.2 = 1 ∧ isv c M (K + dot l x) = true) ∨ (r.2.2.2.2 = -1 ∧ isv c M (K + dot l x) = false) ∨
  (r.2.2.2.2 = 0 ∧ condB r.1 r.2.1 r.2.2.1 r.2.2.2.1 = true ∧ r.2.2.1.length = l.length ∧ isv r.1 r.2.1 (r.2.2.2.1 + dot r.2.2.1 x) = isv c M (K + dot l x) ∧ rawOf r.1 r.2.1 r.2.2.1 r.2.2.2.1 = r)
theorem gfold_quo_one (s : Int) (l : List Int) (hs : s ≠ 0) (hf : ∀ c ∈ l, -1048576 ≤ c ∧ c ≤ 1048576) (hd : ∀ c ∈ l, s ∣ c) (g : Nat) (hg : gfold (g * s.natAbs) l = s.natAbs) : gfold g (quo l s) = 1 := by
  have h := gfold_quo s 0 l hf hd g
  rw [hg] at h
  exact Nat.eq_of_mul_eq_mul_right (show 0 < s.natAbs by omega) (by omega)
theorem good_ge {l x : List Int} {K : Int} (h12 : l.length ≤ 12) (hf : ∀ c ∈ l, -1048576 ≤ c ∧ c ≤ 1048576) (hK : -1048576 ≤ K ∧ K ≤ 1048576) : Good 0 0 l K x (outGe l K) := by
  have hfine := fine_ge h12 hf hK
  unfold Good
  by_cases c : gfold 0 l = 0
  · have e : dot l x = 0 := dot_zero l x (gfold_zero c)
    rw [e, Int.add_zero]
    unfold outGe isv
    rw [if_pos c]
    by_cases d : K ≥ 0
    · left; simp [d]
    · right; left; simp [d]
  · right; right
    have hq := quo_fit l (gfold 0 l : Nat) hf
    have hfl := flo_bd K (gfold 0 l : Nat) (by omega) hK
    have e : outGe l K = (0, 0, quo l (gfold 0 l : Nat), flo K (gfold 0 l : Nat), 0) := by unfold outGe; rw [if_neg c]
    have h1 : gfold 0 (quo l (gfold 0 l : Nat)) = 1 := gfold_quo_one _ l (by omega) hf (gfold_dvd_int l 0) 0 (by simp)
    refine ⟨by rw [e], hfine.2 (by rw [e]), by rw [e]; simp [quo], ?_, ?_⟩
    · rw [e]
      show isv 0 0 _ = _
      unfold isv
      rw [if_pos rfl, if_pos rfl, dot_quo (gfold 0 l : Nat) l x hf (gfold_dvd_int l 0)]
      exact decide_eq_decide.2 (ge_iff K (gfold 0 l : Nat) _ (by omega) hK)
    · rw [e]
      show rawOf 0 0 (quo l (gfold 0 l : Nat)) (flo K (gfold 0 l : Nat)) = _
      unfold rawOf outGe
      rw [if_pos rfl, h1, if_neg (by decide)]
      show (0, 0, quo (quo l (gfold 0 l : Nat)) 1, flo (flo K (gfold 0 l : Nat)) 1, 0) = _
      rw [quo_one _ hq, flo_one _ hfl]
theorem sgn_quo (g : Int) (hg : 1 ≤ g) (hb : g ≤ 1048576) : ∀ l : List Int, (∀ c ∈ l, -1048576 ≤ c ∧ c ≤ 1048576) → (∀ c ∈ l, g ∣ c) → sgn 1 (quo l (sgn g l)) = 1
  | [], _, _ => rfl
  | n :: l, hf, hd => by
    have hn := hf n List.mem_cons_self
    by_cases h0 : n = 0
    · have e1 : sgn g (n :: l) = sgn g l := by simp only [sgn]; rw [if_pos h0]
      rw [e1]
      have e2 : quo (n :: l) (sgn g l) = 0 :: quo l (sgn g l) := by subst h0; simp [quo, w64 (n := 0) (by omega) (by omega)]
      rw [e2]
      simp only [sgn, if_true]
      exact sgn_quo g hg hb l (fun a h => hf a (List.mem_cons_of_mem _ h)) (fun a h => hd a (List.mem_cons_of_mem _ h))
    · obtain ⟨q, rfl⟩ := hd n List.mem_cons_self
      have hsg : sgn g (g * q :: l) = if g * q < 0 then -g else g := by
        simp only [sgn]
        rw [if_neg h0]
        split
        · exact w64 (by omega) (by omega)
        · rfl
      rw [hsg]
      by_cases hneg : g * q < 0
      · have hq : q < 0 := by
          by_cases c : q < 0
          · exact c
          · have := Int.mul_nonneg (show (0 : Int) ≤ g by omega) (show 0 ≤ q by omega); omega
        rw [if_pos hneg]
        have e : Int.tdiv (g * q) (-g) = -q := by rw [Int.tdiv_neg, Int.mul_tdiv_cancel_left _ (by omega)]
        have hb2 := tdiv_bd (g * q) (-g)
        rw [e] at hb2
        have e2 : quo (g * q :: l) (-g) = -q :: quo l (-g) := by simp only [quo, List.map_cons]; rw [e, w64 (by omega) (by omega)]
        rw [e2]
        simp only [sgn]
        rw [if_neg (by omega), if_neg (by omega)]
      · have hq : 0 < q := by
          by_cases c : 0 < q
          · exact c
          · have : q ≠ 0 := fun h => h0 (by rw [h]; simp)
            have := Int.mul_le_mul_of_nonneg_left (show q ≤ -1 by omega) (show (0 : Int) ≤ g by omega); omega
        rw [if_neg hneg]
        have e : Int.tdiv (g * q) g = q := Int.mul_tdiv_cancel_left _ (by omega)
        have hb2 := tdiv_bd (g * q) g
        rw [e] at hb2
        have e2 : quo (g * q :: l) g = q :: quo l g := by simp only [quo, List.map_cons]; rw [e, w64 (by omega) (by omega)]
        rw [e2]
        simp only [sgn]
        rw [if_neg (by omega), if_neg (by omega)]
theorem good_eq {l x : List Int} {K : Int} (h12 : l.length ≤ 12) (hf : ∀ c ∈ l, -1048576 ≤ c ∧ c ≤ 1048576) (hK : -1048576 ≤ K ∧ K ≤ 1048576) : Good 1 0 l K x (outEq l K) := by
  have hfine := fine_eq h12 hf hK
  have hgb : gfold 0 l ≤ 1048576 := gfold_bd 1048576 l 0 (by omega) (fun x hx => by have := hf x hx; omega)
  unfold Good
  by_cases c : gfold 0 l = 0
  · have e : dot l x = 0 := dot_zero l x (gfold_zero c)
    rw [e, Int.add_zero]
    unfold outEq isv
    rw [if_pos c]
    by_cases d : K = 0
    · left; simp [d]
    · right; left; simp [d]
  · by_cases d : Int.tmod K (gfold 0 l : Nat) = 0
    · right; right
      obtain ⟨s, hs⟩ : ∃ s, s = sgn (gfold 0 l : Nat) l := ⟨_, rfl⟩
      have hsb := sgn_bd (gfold 0 l : Nat) (by omega) (by omega) l
      rw [← hs] at hsb
      have hs0 : s ≠ 0 := by omega
      have hsa : s.natAbs = gfold 0 l := by omega
      have hdv : ∀ c ∈ l, s ∣ c := fun c hc => by rcases hsb with h | h <;> rw [h]; exact gfold_dvd_int l 0 c hc; exact Int.neg_dvd.2 (gfold_dvd_int l 0 c hc)
      have hdK : s ∣ K := by rcases hsb with h | h <;> rw [h]; exact Int.dvd_of_tmod_eq_zero d; exact Int.neg_dvd.2 (Int.dvd_of_tmod_eq_zero d)
      have hK' : s * Int.tdiv K s = K := Int.mul_tdiv_cancel' hdK
      have hKb := tdiv_bd K s
      have e : outEq l K = (1, 0, quo l s, Int.tdiv K s, 0) := by unfold outEq; rw [if_neg c, if_pos d, ← hs, w64 (by omega) (by omega)]
      have h1 : gfold 0 (quo l s) = 1 := gfold_quo_one s l hs0 hf hdv 0 (by simp [hsa])
      have hq := quo_fit l s hf
      refine ⟨by rw [e], hfine.2 (by rw [e]), by rw [e]; simp [quo], ?_, ?_⟩
      · rw [e]
        show isv 1 0 _ = _
        unfold isv
        rw [if_neg (by decide), if_pos rfl, if_neg (by decide), if_pos rfl, dot_quo s l x hf hdv]
        show (Int.tdiv K s + dot (quo l s) x == 0) = _
        have e2 : K + s * dot (quo l s) x = s * (Int.tdiv K s + dot (quo l s) x) := by rw [Int.mul_add, hK']
        rw [e2]
        generalize Int.tdiv K s + dot (quo l s) x = t
        by_cases ht : t = 0
        · simp [ht]
        · have : s * t ≠ 0 := Int.mul_ne_zero hs0 ht
          rw [beq_eq_false_iff_ne.2 ht, beq_eq_false_iff_ne.2 this]
      · rw [e]
        show rawOf 1 0 (quo l s) (Int.tdiv K s) = _
        unfold rawOf outEq
        have hsg : sgn 1 (quo l s) = 1 := by rw [hs]; exact sgn_quo _ (by omega) (by omega) l hf (gfold_dvd_int l 0)
        rw [if_neg (by decide), if_pos rfl, h1, if_neg (by decide)]
        show (if Int.tmod (Int.tdiv K s) 1 = 0 then (1, 0, quo (quo l s) (sgn 1 (quo l s)), wrap64 (Int.tdiv (Int.tdiv K s) (sgn 1 (quo l s))), 0) else _) = _
        rw [Int.tmod_one, if_pos rfl, hsg, quo_one _ hq, Int.tdiv_one, w64 (by omega) (by omega)]
    · right; left
      have e : outEq l K = (0, 0, [], 0, -1) := by unfold outEq; rw [if_neg c, if_neg d]
      refine ⟨by rw [e], ?_⟩
      unfold isv
      rw [if_neg (by decide), if_pos rfl, beq_eq_false_iff_ne, dot_quo (gfold 0 l : Nat) l x hf (gfold_dvd_int l 0)]
      intro h
      apply d
      apply Int.tmod_eq_zero_of_dvd
      exact ⟨-dot (quo l (gfold 0 l : Nat)) x, by rw [Int.mul_neg]; omega⟩
theorem modv_dvd (n M : Int) (h1 : 1 ≤ M) (h2 : M ≤ 512) : M ∣ n - modv n M := by
  have a := Int.tmod_lt_of_pos n (show 0 < M by omega)
  have b := Int.lt_tmod_of_pos n (show 0 < M by omega)
  have h := Int.mul_tdiv_add_tmod n M
  unfold modv
  split
  · rw [w64 (by omega) (by omega)]
    exact ⟨Int.tdiv n M - 1, by rw [Int.mul_sub]; omega⟩
  · exact ⟨Int.tdiv n M, by omega⟩
theorem dot_mods (M : Int) (h1 : 1 ≤ M) (h2 : M ≤ 512) : ∀ l x : List Int, M ∣ dot l x - dot (mods l M) x
  | [], _ => by simp [dot, mods]
  | _ :: _, [] => by simp [dot, mods]
  | c :: l, m :: x => by
    have ih := dot_mods M h1 h2 l x
    have e : mods (c :: l) M = modv c M :: mods l M := rfl
    rw [e]
    simp only [dot]
    have e2 : c * m + dot l x - (modv c M * m + dot (mods l M) x) = (c - modv c M) * m + (dot l x - dot (mods l M) x) := by rw [Int.sub_mul]; omega
    rw [e2]
    exact Int.dvd_add (Int.dvd_mul_of_dvd_left (modv_dvd c M h1 h2)) ih
theorem modv_small (n M : Int) (h0 : 0 ≤ n) (h1 : n < M) : modv n M = n := by
  unfold modv
  rw [Int.tmod_eq_of_lt h0 h1, if_neg (by omega)]
theorem tmod_zero_iff (v M : Int) : (Int.tmod v M == 0) = decide (M ∣ v) := by
  by_cases h : M ∣ v
  · simp [h, Int.tmod_eq_zero_of_dvd h]
  · have : Int.tmod v M ≠ 0 := fun h' => h (Int.dvd_of_tmod_eq_zero h')
    rw [beq_eq_false_iff_ne.2 this]
    simp [h]
theorem good_div {l x : List Int} {K M : Int} (h12 : l.length ≤ 12) (hM1 : 1 ≤ M) (hM2 : M ≤ 512) : Good 2 M l K x (fin (mods l M) K M (gfold M.natAbs (mods l M) : Nat)) := by
  have hfine := fine_div (l := l) (K := K) h12 hM1 hM2
  have hp := gfold_pos (mods l M) M.natAbs (by omega)
  have hle := gfold_le (mods l M) M.natAbs (by omega)
  have hdM : ((gfold M.natAbs (mods l M) : Nat) : Int) ∣ M := Int.ofNat_dvd_left.2 (gfold_dvd (mods l M) M.natAbs).1
  have hdT := gfold_dvd_int (mods l M) M.natAbs
  have hTb : ∀ c ∈ mods l M, 0 ≤ c ∧ c < M := by
    intro c hc
    obtain ⟨n, _, rfl⟩ := List.mem_map.1 hc
    exact modv_bd n M hM1 hM2
  have hTf : ∀ c ∈ mods l M, -1048576 ≤ c ∧ c ≤ 1048576 := fun c hc => by have := hTb c hc; omega
  have hKb := modv_bd K M hM1 hM2
  have hcong : M ∣ (K + dot l x) - (modv K M + dot (mods l M) x) := by
    have e : (K + dot l x) - (modv K M + dot (mods l M) x) = (K - modv K M) + (dot l x - dot (mods l M) x) := by omega
    rw [e]
    exact Int.dvd_add (modv_dvd K M hM1 hM2) (dot_mods M hM1 hM2 l x)
  have hiff : M ∣ (K + dot l x) ↔ M ∣ (modv K M + dot (mods l M) x) := by
    constructor
    · intro h
      have := Int.dvd_sub h hcong
      rwa [show (K + dot l x) - ((K + dot l x) - (modv K M + dot (mods l M) x)) = modv K M + dot (mods l M) x by omega] at this
    · intro h
      have := Int.dvd_add hcong h
      rwa [show (K + dot l x) - (modv K M + dot (mods l M) x) + (modv K M + dot (mods l M) x) = K + dot l x by omega] at this
  have hisv : isv 2 M (K + dot l x) = decide (M ∣ (modv K M + dot (mods l M) x)) := by
    unfold isv
    rw [if_neg (by decide), if_neg (by decide), tmod_zero_iff]
    exact decide_eq_decide.2 hiff
  have hdq := dot_quo ((gfold M.natAbs (mods l M) : Nat) : Int) (mods l M) x hTf hdT
  obtain ⟨h, hh⟩ : ∃ h : Int, h = ((gfold M.natAbs (mods l M) : Nat) : Int) := ⟨_, rfl⟩
  have hhp : 1 ≤ h := by omega
  have hhM : h ≤ M := by omega
  rw [← hh] at hdM hdq hdT hfine ⊢
  unfold Good
  rw [hisv, hdq]
  by_cases d : Int.tmod (modv K M) h = 0
  · have hdK : h ∣ modv K M := Int.dvd_of_tmod_eq_zero d
    have eK : h * Int.tdiv (modv K M) h = modv K M := Int.mul_tdiv_cancel' hdK
    have eM : h * Int.tdiv M h = M := Int.mul_tdiv_cancel' hdM
    by_cases e : M = h
    · left
      refine ⟨by unfold fin; rw [if_pos d, if_pos e], ?_⟩
      rw [decide_eq_true_eq]
      have : h ∣ modv K M + h * dot (quo (mods l M) h) x := Int.dvd_add hdK ⟨_, rfl⟩
      rw [← e] at this ⊢
      exact this
    · right; right
      have bK := tdiv_bd (modv K M) h
      have bM := tdiv_bd M h
      have er : fin (mods l M) K M h = (2, Int.tdiv M h, quo (mods l M) h, Int.tdiv (modv K M) h, 0) := by
        unfold fin
        rw [if_pos d, if_neg e, w64 (n := Int.tdiv M h) (by omega) (by omega), w64 (n := Int.tdiv (modv K M) h) (by omega) (by omega)]
      generalize hMq : Int.tdiv M h = M' at *
      generalize hKq : Int.tdiv (modv K M) h = K' at *
      have hM'1 : 1 ≤ M' := by
        by_cases c : 1 ≤ M'
        · exact c
        · have := Int.mul_le_mul_of_nonneg_left (show M' ≤ 0 by omega) (show (0 : Int) ≤ h by omega); omega
      have hM'2 : M' ≤ 512 := by omega
      have hM'n : M' ≠ 1 := fun c => e (by rw [c] at eM; omega)
      have hK'0 : 0 ≤ K' := by
        by_cases c : 0 ≤ K'
        · exact c
        · have := Int.mul_le_mul_of_nonneg_left (show K' ≤ -1 by omega) (show (0 : Int) ≤ h by omega); omega
      have lt_of : ∀ q : Int, h * q < h * M' → q < M' := fun q hq => Int.lt_of_mul_lt_mul_left hq (by omega)
      have hK'M : K' < M' := lt_of K' (by rw [eK, eM]; exact hKb.2)
      have hQ : ∀ c ∈ quo (mods l M) h, 0 ≤ c ∧ c < M' := by
        intro c hc
        obtain ⟨t, ht, rfl⟩ := List.mem_map.1 hc
        have b1 := hTb t ht
        have b2 := tdiv_bd t h
        have e1 : h * Int.tdiv t h = t := Int.mul_tdiv_cancel' (hdT t ht)
        rw [w64 (by omega) (by omega)]
        refine ⟨?_, lt_of _ (by omega)⟩
        by_cases c : 0 ≤ Int.tdiv t h
        · exact c
        · have := Int.mul_le_mul_of_nonneg_left (show Int.tdiv t h ≤ -1 by omega) (show (0 : Int) ≤ h by omega); omega
      have hQm : mods (quo (mods l M) h) M' = quo (mods l M) h := by
        have : ∀ c ∈ quo (mods l M) h, modv c M' = c := fun c hc => modv_small c M' (hQ c hc).1 (hQ c hc).2
        exact (List.map_congr_left this).trans (List.map_id' _)
      have hna : M'.natAbs * h.natAbs = M.natAbs := by rw [← Int.natAbs_mul, Int.mul_comm, eM]
      have hg1 : gfold M'.natAbs (quo (mods l M) h) = 1 := gfold_quo_one h (mods l M) (by omega) hTf hdT M'.natAbs (by rw [hna]; omega)
      refine ⟨by rw [er], hfine.2 (by rw [er]), by rw [er]; simp [quo, mods], ?_, ?_⟩
      · rw [er]
        show isv 2 M' (K' + dot (quo (mods l M) h) x) = _
        unfold isv
        rw [if_neg (by decide), if_neg (by decide), tmod_zero_iff, ← eK, ← Int.mul_add]
        have hx : h * M' ∣ h * (K' + dot (quo (mods l M) h) x) ↔ M' ∣ K' + dot (quo (mods l M) h) x := Int.mul_dvd_mul_iff_left (show h ≠ 0 by omega)
        rw [eM] at hx
        exact decide_eq_decide.2 hx.symm
      · rw [er]
        show rawOf 2 M' (quo (mods l M) h) K' = _
        unfold rawOf
        rw [if_neg (by decide), if_neg (by decide), hQm, hg1]
        unfold fin
        have hqf : ∀ c ∈ quo (mods l M) h, -1048576 ≤ c ∧ c ≤ 1048576 := fun c hc => by have := hQ c hc; omega
        rw [modv_small K' M' hK'0 hK'M]
        show (if Int.tmod K' 1 = 0 then (if M' = 1 then _ else (2, wrap64 (Int.tdiv M' 1), quo (quo (mods l M) h) 1, wrap64 (Int.tdiv K' 1), 0)) else _) = _
        rw [Int.tmod_one, if_pos rfl, if_neg hM'n, Int.tdiv_one, Int.tdiv_one, w64 (n := M') (by omega) (by omega), w64 (n := K') (by omega) (by omega), quo_one _ hqf]
  · right; left
    refine ⟨by unfold fin; rw [if_neg d], ?_⟩
    rw [decide_eq_false_iff_not]
    intro hc
    apply d
    apply Int.tmod_eq_zero_of_dvd
    have h1 : h ∣ modv K M + h * dot (quo (mods l M) h) x := Int.dvd_trans hdM hc
    have h2 := Int.dvd_sub h1 (⟨_, rfl⟩ : h ∣ h * dot (quo (mods l M) h) x)
    rwa [Int.add_sub_cancel] at h2
theorem good_all (c M : Int) (l x : List Int) (K : Int) (hv : condB c M l K = true) : Good c M l K x (rawOf c M l K) := by
  simp only [condB, Bool.and_eq_true, Bool.or_eq_true, decide_eq_true_eq] at hv
  obtain ⟨hv1, hv2⟩ := hv
  obtain ⟨hf, h12, hK1, hK2⟩ := (valB_iff l K).1 hv1
  unfold rawOf
  rcases hv2 with ⟨h0 | h0, rfl⟩ | ⟨rfl, hM1, hM2⟩
  · subst h0
    rw [if_pos rfl]
    exact good_ge h12 hf ⟨hK1, hK2⟩
  · subst h0
    rw [if_neg (by decide), if_pos rfl]
    exact good_eq h12 hf ⟨hK1, hK2⟩
  · rw [if_neg (by decide), if_neg (by decide)]
    exact good_div h12 hM1 hM2
theorem is_f (c M : Int) (l : List Int) (K : Int) (x : List Int) (hv : condB c M l K = true) (hl : x.length = l.length) (hc : ∀ c ∈ x, -4294967296 ≤ c ∧ c ≤ 4294967296) (k : Nat) (hk : 20 ≤ k) : headlandref03_Is.f k c M l K x = some (isv c M (K + dot l x)) := by
  simp only [condB, Bool.and_eq_true, Bool.or_eq_true, decide_eq_true_eq] at hv
  obtain ⟨hv1, hv2⟩ := hv
  obtain ⟨hf, h12, hK1, hK2⟩ := (valB_iff l K).1 hv1
  unfold headlandref03_Is.f isv
  rw [value_f l x K hl h12 hf ⟨hK1, hK2⟩ hc k hk]
  simp only [Option.bind_some]
  by_cases c0 : c = 0
  · simp [c0]
  · by_cases c1 : c = 1
    · simp [c1]
    · have hM0 : ¬ M = 0 := by omega
      simp [c0, c1, hM0]
theorem holds_cases (c M : Int) (l : List Int) (K : Int) (x : List Int) (hm : l.length ≤ maxLen) :
    (∃ b e, e ≠ 0 ∧ ∀ k, 60 + l.length ≤ k → cond_Holds.f k c M l K x = some (b, e)) ∨
    (condB c M l K = true ∧ x.length = l.length ∧ (∀ n ∈ x, -4294967296 ≤ n ∧ n ≤ 4294967296) ∧ ∀ k, 60 + l.length ≤ k → cond_Holds.f k c M l K x = some (isv c M (K + dot l x), 0)) := by
  have hM : maxLen = 9223372036854775807 := by decide
  by_cases hv : condB c M l K = true
  · have hv' := hv
    simp only [condB, Bool.and_eq_true, Bool.or_eq_true, decide_eq_true_eq] at hv'
    obtain ⟨hv1, hv2⟩ := hv'
    obtain ⟨hf, h12, hK1, hK2⟩ := (valB_iff l K).1 hv1
    by_cases he : x.length = l.length
    · by_cases hx : x.all coordB = true
      · have hc : ∀ n ∈ x, -4294967296 ≤ n ∧ n ≤ 4294967296 := fun n hn => by simpa [coordB] using List.all_eq_true.1 hx n hn
        refine .inr ⟨hv, he, hc, fun k hk => ?_⟩
        obtain ⟨r, h1, h2⟩ := holds_both c M l K x hm k hk
        rw [h1, ← h2]
        unfold headlandref03_Holds.f
        have hp := point_l0 x (by omega) x.length k 0 (by omega) (by omega) (by omega)
        rw [List.drop_zero, Int.natCast_zero, hx] at hp
        have hp' : headlandref02_Point.f k x = some true := hp
        rw [rvalid c M K hm (by omega), hp', is_f c M l K x hv he hc k (by omega)]
        simp [hv, he]
      · refine .inl ⟨false, 6, by decide, fun k hk => ?_⟩
        obtain ⟨r, h1, h2⟩ := holds_both c M l K x hm k hk
        rw [h1, ← h2]
        unfold headlandref03_Holds.f
        have hp := point_l0 x (by omega) x.length k 0 (by omega) (by omega) (by omega)
        simp only [Bool.not_eq_true] at hx
        rw [List.drop_zero, Int.natCast_zero, hx] at hp
        have hp' : headlandref02_Point.f k x = some false := hp
        rw [rvalid c M K hm (by omega), hp']
        simp [hv, he]
    · refine .inl ⟨false, 2, by decide, fun k hk => ?_⟩
      obtain ⟨r, h1, h2⟩ := holds_both c M l K x hm k hk
      rw [h1, ← h2]
      unfold headlandref03_Holds.f
      rw [rvalid c M K hm (by omega)]
      have he' : ¬ (l.length : Int) = (x.length : Int) := by omega
      simp [hv, he']
  · refine .inl ⟨false, 1, by decide, fun k hk => ?_⟩
    unfold cond_Holds.f
    rw [cvalid c M K hm (by omega)]
    simp [hv]
theorem CondPoints (c M : Int) (l : List Int) (K : Int) (x : List Int) (hm : l.length ≤ maxLen) : ∃ k, headlandlaw03_CondPoints.f k c M l K x = some true := by
  have hM : maxLen = 9223372036854775807 := by decide
  rcases holds_cases c M l K x hm with ⟨b, e, he, hh⟩ | ⟨hv, hl, hc, hh⟩
  · obtain ⟨r, k0, h⟩ := norm_any c M l K hm
    refine ⟨80 + (k0 + l.length), ?_⟩
    unfold headlandlaw03_CondPoints.f
    rw [hh _ (by omega), h _ (by omega), headlandlaw03_awake.ge]
    simp [he]
  · obtain ⟨k0, h⟩ := norm_ev c M l K hv
    have hg := good_all c M l x K hv
    have hr := (rawOf_ev c M l K hv).1
    generalize hrr : rawOf c M l K = r at *
    obtain ⟨c', M', l', K', st⟩ := r
    simp only [Good] at hg
    rcases hg with ⟨hs, hi⟩ | ⟨hs, hi⟩ | ⟨hs, hv', hl', hi, hraw⟩
    · subst hs
      refine ⟨80 + (k0 + l.length) + 1, ?_⟩
      unfold headlandlaw03_CondPoints.f
      rw [hh _ (by omega), h _ (by omega)]
      simp only [Option.bind_some, hi]
      simp only [headlandlaw03_CondPoints.j0, headlandlaw03_awake.ge]
      simp
    · subst hs
      refine ⟨80 + (k0 + l.length) + 1, ?_⟩
      unfold headlandlaw03_CondPoints.f
      rw [hh _ (by omega), h _ (by omega)]
      simp only [Option.bind_some, hi]
      simp only [headlandlaw03_CondPoints.j0, headlandlaw03_awake.ge]
      simp
    · subst hs
      obtain ⟨k1, h1⟩ := norm_ev c' M' l' K' hv'
      rw [hraw] at h1
      refine ⟨80 + (k0 + k1 + l.length + l'.length) + 1, ?_⟩
      unfold headlandlaw03_CondPoints.f
      rw [hh _ (by omega), h _ (by omega)]
      simp only [Option.bind_some]
      have hr1 : l'.length ≤ 12 := hr.1
      simp only [headlandlaw03_CondPoints.j0, headlandlaw03_awake.ge]
      rw [h1 _ (by omega), is_f c' M' l' K' x hv' (by omega) hc _ (by omega), hi]
      simp only [Option.bind_some]
      rw [same_refl c' M' K' (by omega) (by omega)]
      simp
theorem walkPoints (c0 m0 : Int) (a0 : Option Addr) (len0 cap0 : Nat) (z0 : List Int) (b0 : Int) (a1 : Option Addr) (len1 cap1 : Nat) (z1 : List Int) (w : World) (v0 : (Lit.int .i64 c0).wf = true) (u0 : (Lit.int .i64 m0).wf = true)
    (w0 : (a0 = none ∧ len0 = 0 ∧ cap0 = 0 ∧ z0 = []) ∨ ∃ x, a0 = some x ∧ len0 ≤ cap0 ∧ cap0 ≤ maxLen ∧ z0.length = cap0 ∧ (∀ i, i < z0.length → w.cell? (x.add i) = some (.int .i64 (z0.getD i 0))) ∧ ∀ n ∈ z0, (Lit.int .i64 n).wf = true) (x0 : (Lit.int .i64 b0).wf = true)
    (w1 : (a1 = none ∧ len1 = 0 ∧ cap1 = 0 ∧ z1 = []) ∨ ∃ x, a1 = some x ∧ len1 ≤ cap1 ∧ cap1 ≤ maxLen ∧ z1.length = cap1 ∧ (∀ i, i < z1.length → w.cell? (x.add i) = some (.int .i64 (z1.getD i 0))) ∧ ∀ n ∈ z1, (Lit.int .i64 n).wf = true) (y1 : len1 * 8 ≤ 140737488351232) :
    Calls Try.prog 5 #[.agg #[.int .i64 c0, .int .i64 m0, .slice a0 len0 cap0, .int .i64 b0], .slice a1 len1 cap1] w fun e w' => e = .returned (.bool true) ∧ Below w.heap.size w w' := by
  obtain ⟨l0, rfl, hr0, hm0, hw0, hc0⟩ := ReadsInt.ofRowC w0
  obtain ⟨l1, rfl, hr1, hm1, hw1, hc1⟩ := ReadsInt.ofRowC w1
  obtain ⟨k, h⟩ := CondPoints c0 m0 l0 b0 l1 hm0
  exact headlandlaw03_CondPoints.calls k c0 m0 a0 cap0 l0 b0 a1 cap1 l1 true w (Kd.C_of_reads (d := (0 : Int)) (h1 := fun _ => rfl) hr0) hc0 (Kd.C_of_reads (d := (0 : Int)) (h1 := fun _ => rfl) hr1) hc1 h
end Go.Proofs.Ytcakhbhjdpplcaa.Lp
