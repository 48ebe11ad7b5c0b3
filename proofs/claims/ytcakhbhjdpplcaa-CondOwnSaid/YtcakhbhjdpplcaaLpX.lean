/- Plain laws behind CondOther: what Holds answers, and what the makers' answers say at a point. -/
import Derived.Test.YtcakhbhjdpplcaaLpK
import Derived.Test.YtcakhbhjdpplcaaHo1
namespace Go.Proofs.Ytcakhbhjdpplcaa.Lp
open Go.RowKit Go.Proofs.Ytcakhbhjdpplcaa.Aa Go.Proofs.Ytcakhbhjdpplcaa.Man Go.Proofs.Ytcakhbhjdpplcaa.Nr Go.Proofs.Ytcakhbhjdpplcaa.Ho Go.Proofs.YtcakhbhjdpplcaaW.PrintWords Go.Proofs.YtcakhbhjdpplcaaW.PrintLast
set_option linter.unusedVariables false
set_option linter.unusedSimpArgs false
def coordB (a : Int) : Bool := decide (-4294967296 ≤ a ∧ a ≤ 4294967296)
theorem coord_at (a : Int) : headlandref01_Coord.f a = some (coordB a) := by
  unfold headlandref01_Coord.f coordB
  by_cases h : a ≥ -4294967296
  · rw [if_pos h]; congr 1; simp only [decide_eq_decide]; omega
  · rw [if_neg h]; congr 1; symm; simp only [decide_eq_false_iff_not]; omega
theorem point_l0 (x : List Int) (hm : x.length ≤ maxLen) : ∀ (d k i : Nat), i ≤ x.length → x.length - i = d → d < k → headlandref02_Point.l0 k x (x.length : Int) (i : Int) = some ((x.drop i).all coordB) := by
  have hM : maxLen = 9223372036854775807 := by decide
  intro d
  induction d with
  | zero =>
    intro k i h0 hd hk
    obtain ⟨k, rfl⟩ : ∃ m, k = m + 1 := ⟨k - 1, by omega⟩
    have : i = x.length := by omega
    subst this
    simp only [headlandref02_Point.l0]
    rw [if_neg (by omega)]
    simp
  | succ d ih =>
    intro k i h0 hd hk
    obtain ⟨k, rfl⟩ : ∃ m, k = m + 1 := ⟨k - 1, by omega⟩
    have hlt : i < x.length := by omega
    simp only [headlandref02_Point.l0, coord_at, Option.bind_some]
    rw [if_pos (by omega), if_pos (by omega), if_pos (by omega), rd_nat x i hlt, List.drop_eq_getElem_cons hlt, List.all_cons]
    by_cases hf : coordB x[i] = true
    · rw [if_pos hf, w64 (by omega) (by omega)]
      have := ih k (i + 1) (by omega) (by omega) (by omega)
      rw [Int.natCast_succ] at this
      rw [this, hf, Bool.true_and]
    · rw [if_neg hf]
      simp only [Bool.not_eq_true] at hf
      rw [hf, Bool.false_and]
/-- Both loops, side by side: the program adds from 0 and puts the constant on at the end, the reference begins with it. -/
theorem dot_l0 (l x : List Int) (K : Int) (hl : x.length = l.length) (h12 : l.length ≤ 12) (hfit : ∀ n ∈ l, -1048576 ≤ n ∧ n ≤ 1048576) : ∀ (d k i : Nat) (acc : Int), i ≤ l.length → l.length - i = d → d < k →
    ((x.drop i).all coordB = true → ∃ s, num_Dot.l0 k l x acc (l.length : Int) (i : Int) = some (s, 0) ∧ headlandref02_Value.l0 k x (wrap64 (K + acc)) (l.length : Int) (i : Int) l K = some (wrap64 (K + s))) ∧
    ((x.drop i).all coordB = false → num_Dot.l0 k l x acc (l.length : Int) (i : Int) = some (0, 6)) := by
  intro d
  induction d with
  | zero =>
    intro k i acc h0 hd hk
    obtain ⟨k, rfl⟩ : ∃ m, k = m + 1 := ⟨k - 1, by omega⟩
    have : i = x.length := by omega
    subst this
    simp only [num_Dot.l0, headlandref02_Value.l0]
    rw [if_neg (by omega), if_neg (by omega)]
    exact ⟨fun _ => ⟨acc, rfl, rfl⟩, fun h => by simp at h⟩
  | succ d ih =>
    intro k i acc h0 hd hk
    obtain ⟨k, rfl⟩ : ∃ m, k = m + 1 := ⟨k - 1, by omega⟩
    have hlt : i < x.length := by omega
    have hlt2 : i < l.length := by omega
    have hff : fitB l[i] = true := by simpa [fitB] using hfit _ (List.getElem_mem hlt2)
    simp only [num_Dot.l0, headlandref02_Value.l0, fits_aa, Option.bind_some]
    rw [rd_nat x i hlt, rd_nat l i hlt2, if_pos hff, List.drop_eq_getElem_cons hlt, List.all_cons]
    simp only [show (i : Int) < (l.length : Int) from by omega, show (i : Int) < (x.length : Int) from by omega, show (0 : Int) ≤ (i : Int) from by omega, if_true]
    rw [w64 (n := (i : Int) + 1) (by omega) (by omega)]
    by_cases hf : coordB x[i] = true
    · have hc : -4294967296 ≤ x[i] ∧ x[i] ≤ 4294967296 := by simpa [coordB] using hf
      rw [if_neg (by omega), if_neg (by omega), hf, Bool.true_and]
      have := ih k (i + 1) (wrap64 (acc + wrap64 (l[i] * x[i]))) (by omega) (by omega) (by omega)
      rw [Int.natCast_succ] at this
      rw [show wrap64 (wrap64 (K + acc) + wrap64 (l[i] * x[i])) = wrap64 (K + wrap64 (acc + wrap64 (l[i] * x[i]))) from by
        generalize wrap64 (l[i] * x[i]) = p
        unfold wrap64
        omega]
      exact this
    · simp only [Bool.not_eq_true] at hf
      have hc : ¬ (-4294967296 ≤ x[i] ∧ x[i] ≤ 4294967296) := by simpa [coordB] using hf
      rw [hf, Bool.false_and]
      refine ⟨fun h => (by cases h), fun _ => ?_⟩
      by_cases h1 : x[i] < -4294967296
      · rw [if_pos h1]
      · rw [if_neg h1, if_pos (by omega)]
/-- The value at a point, on both sides. -/
theorem at_both (l : List Int) (K : Int) (x : List Int) (hv : valB l K = true) (k : Nat) (hk : 60 ≤ k) :
    (¬ (l.length : Int) = (x.length : Int) ∧ lin_At.f k l K x = some (0, 2)) ∨
    ((l.length : Int) = (x.length : Int) ∧ (∃ v, lin_At.f k l K x = some (v, 0) ∧ headlandref02_Point.f k x = some true ∧ headlandref02_Value.f k l K x = some v)) ∨
    ((l.length : Int) = (x.length : Int) ∧ lin_At.f k l K x = some (0, 6) ∧ headlandref02_Point.f k x = some false) := by
  have hM : maxLen = 9223372036854775807 := by decide
  obtain ⟨hfit, h12, hk1, hk2⟩ := (valB_iff l K).1 hv
  unfold lin_At.f num_Dot.f
  rw [valid_aa K (by omega) (by omega)]
  simp only [Option.bind_some, hv, if_true]
  by_cases he : (l.length : Int) = (x.length : Int)
  · refine .inr ?_
    rw [if_pos he, if_neg (by omega)]
    have hp := point_l0 x (by omega) x.length k 0 (by omega) (by omega) (by omega)
    have hd := dot_l0 l x K (by omega) h12 hfit l.length k 0 0 (by omega) (by omega) (by omega)
    simp only [List.drop_zero, Int.natCast_zero, Int.add_zero, Int.cast_ofNat_Int] at hp hd
    unfold headlandref02_Point.f headlandref02_Value.f
    rw [hp]
    cases ha : x.all coordB with
    | true =>
      obtain ⟨s, h1, h2⟩ := hd.1 ha
      rw [w64 (n := K) (by omega) (by omega)] at h2
      rw [h1]
      exact .inl ⟨he, _, rfl, rfl, h2⟩
    | false =>
      rw [hd.2 ha]
      exact .inr ⟨he, rfl, rfl⟩
  · rw [if_neg he]
    exact .inl ⟨he, rfl⟩
theorem holds_both (c M : Int) (l : List Int) (K : Int) (x : List Int) (hm : l.length ≤ maxLen) (k : Nat) (hk : 60 + l.length ≤ k) : ∃ r : Bool × Int, cond_Holds.f k c M l K x = some r ∧ headlandref03_Holds.f k c M l K x = some r := by
  unfold cond_Holds.f headlandref03_Holds.f
  rw [cvalid c M K hm (by omega), rvalid c M K hm (by omega)]
  simp only [Option.bind_some]
  by_cases hv : condB c M l K = true
  · rw [if_pos hv, if_pos hv]
    simp only [condB, Bool.and_eq_true, Bool.or_eq_true, decide_eq_true_eq] at hv
    obtain ⟨hv1, hv2⟩ := hv
    rcases at_both l K x hv1 k (by omega) with ⟨h1, h2⟩ | ⟨h1, v, h2, h3, h4⟩ | ⟨h1, h2, h3⟩
    · rw [h2, if_neg h1]
      exact ⟨_, rfl, rfl⟩
    · rw [h2, if_pos h1, h3]
      unfold headlandref03_Is.f
      rw [h4]
      simp only [Option.bind_some, if_true]
      by_cases c0 : c = 0
      · simp [c0]
      · by_cases c1 : c = 1
        · simp [c1]
        · have hM0 : ¬ M = 0 := by omega
          simp [c0, c1, hM0]
    · rw [h2, if_pos h1, h3]
      exact ⟨_, rfl, rfl⟩
  · rw [if_neg hv, if_neg hv]
    exact ⟨_, rfl, rfl⟩
/-- The sum of products. -/
def dot : List Int → List Int → Int
  | c :: l, n :: x => c * n + dot l x
  | _, _ => 0
theorem prod_bd {a b : Int} (ha : -1048576 ≤ a ∧ a ≤ 1048576) (hb : -4294967296 ≤ b ∧ b ≤ 4294967296) : -4503599627370496 ≤ a * b ∧ a * b ≤ 4503599627370496 := by
  have h1 : (a * b).natAbs ≤ 1048576 * 4294967296 := by rw [Int.natAbs_mul]; exact Nat.mul_le_mul (by omega) (by omega)
  omega
theorem dot_bd : ∀ (l x : List Int) (n : Nat), l.length ≤ n → (∀ c ∈ l, -1048576 ≤ c ∧ c ≤ 1048576) → (∀ c ∈ x, -4294967296 ≤ c ∧ c ≤ 4294967296) → -4503599627370496 * n ≤ dot l x ∧ dot l x ≤ 4503599627370496 * n
  | [], _, n, _, _, _ => by simp only [dot]; omega
  | _ :: _, [], n, _, _, _ => by simp only [dot]; omega
  | c :: l, m :: x, n, hn, hl, hx => by
    obtain ⟨n, rfl⟩ : ∃ k, n = k + 1 := ⟨n - 1, by simp at hn; omega⟩
    have h1 := dot_bd l x n (by simpa using hn) (fun a h => hl a (List.mem_cons_of_mem _ h)) (fun a h => hx a (List.mem_cons_of_mem _ h))
    have h2 := prod_bd (hl c List.mem_cons_self) (hx m List.mem_cons_self)
    simp only [dot]
    omega
theorem value_l0 (l x : List Int) (K : Int) (hl : x.length = l.length) (h12 : l.length ≤ 12) (hfit : ∀ n ∈ l, -1048576 ≤ n ∧ n ≤ 1048576) (hc : ∀ c ∈ x, -4294967296 ≤ c ∧ c ≤ 4294967296) : ∀ (d k i : Nat) (acc : Int), i ≤ l.length → l.length - i = d → d < k →
    -1048576 - 4503599627370496 * i ≤ acc ∧ acc ≤ 1048576 + 4503599627370496 * i → headlandref02_Value.l0 k x acc (l.length : Int) (i : Int) l K = some (acc + dot (l.drop i) (x.drop i)) := by
  intro d
  induction d with
  | zero =>
    intro k i acc h0 hd hk hacc
    obtain ⟨k, rfl⟩ : ∃ m, k = m + 1 := ⟨k - 1, by omega⟩
    simp only [headlandref02_Value.l0]
    rw [if_neg (by omega), List.drop_of_length_le (by omega)]
    simp [dot]
  | succ d ih =>
    intro k i acc h0 hd hk hacc
    obtain ⟨k, rfl⟩ : ∃ m, k = m + 1 := ⟨k - 1, by omega⟩
    have hlt : i < x.length := by omega
    have hlt2 : i < l.length := by omega
    have hp := prod_bd (hfit _ (List.getElem_mem hlt2)) (hc _ (List.getElem_mem hlt))
    simp only [headlandref02_Value.l0]
    rw [if_pos (by omega), if_pos (by omega), if_pos (by omega), if_pos (by omega), rd_nat l i hlt2, rd_nat x i hlt, List.drop_eq_getElem_cons hlt, List.drop_eq_getElem_cons hlt2]
    generalize hq : l[i] * x[i] = q at *
    rw [w64 (n := (i : Int) + 1) (by omega) (by omega), w64 (n := q) (by omega) (by omega), w64 (n := acc + q) (by omega) (by omega)]
    have := ih k (i + 1) (acc + q) (by omega) (by omega) (by omega) (by omega)
    rw [Int.natCast_succ] at this
    rw [this]
    simp only [dot, hq]
    congr 1
    omega
theorem value_f (l x : List Int) (K : Int) (hl : x.length = l.length) (h12 : l.length ≤ 12) (hfit : ∀ n ∈ l, -1048576 ≤ n ∧ n ≤ 1048576) (hK : -1048576 ≤ K ∧ K ≤ 1048576) (hc : ∀ c ∈ x, -4294967296 ≤ c ∧ c ≤ 4294967296) (k : Nat) (hk : 20 ≤ k) :
    headlandref02_Value.f k l K x = some (K + dot l x) := by
  have := value_l0 l x K hl h12 hfit hc l.length k 0 K (by omega) (by omega) (by omega) (by omega)
  rw [List.drop_zero, List.drop_zero] at this
  exact this
/-- All coefficients divided. -/
theorem dot_quo (g : Int) : ∀ (l x : List Int), (∀ c ∈ l, -1048576 ≤ c ∧ c ≤ 1048576) → (∀ c ∈ l, g ∣ c) → dot l x = g * dot (quo l g) x
  | [], _, _, _ => by simp [dot, quo]
  | _ :: _, [], _, _ => by simp [dot, quo]
  | c :: l, m :: x, hf, hd => by
    have ih := dot_quo g l x (fun a h => hf a (List.mem_cons_of_mem _ h)) (fun a h => hd a (List.mem_cons_of_mem _ h))
    have e : quo (c :: l) g = wrap64 (Int.tdiv c g) :: quo l g := rfl
    have hb := tdiv_bd c g
    have hc := hf c List.mem_cons_self
    have hg : g * Int.tdiv c g = c := Int.mul_tdiv_cancel' (hd c List.mem_cons_self)
    rw [e]
    simp only [dot]
    rw [w64 (by omega) (by omega), ih, Int.mul_add, ← Int.mul_assoc, hg]
theorem gfold_dvd (l : List Int) : ∀ g, gfold g l ∣ g ∧ ∀ x ∈ l, gfold g l ∣ x.natAbs := by
  induction l with
  | nil => intro g; exact ⟨Nat.dvd_refl _, fun x hx => by cases hx⟩
  | cons a l ih =>
    intro g
    obtain ⟨h1, h2⟩ := ih (Nat.gcd g a.natAbs)
    refine ⟨Nat.dvd_trans h1 (Nat.gcd_dvd_left _ _), fun x hx => ?_⟩
    rcases List.mem_cons.1 hx with rfl | hx
    · exact Nat.dvd_trans h1 (Nat.gcd_dvd_right _ _)
    · exact h2 x hx
theorem gfold_dvd_int (l : List Int) (g : Nat) : ∀ x ∈ l, ((gfold g l : Nat) : Int) ∣ x := fun x hx => Int.ofNat_dvd_left.2 ((gfold_dvd l g).2 x hx)
theorem dot_zero : ∀ (l x : List Int), (∀ c ∈ l, c = 0) → dot l x = 0
  | [], _, _ => by simp [dot]
  | _ :: _, [], _ => by simp [dot]
  | c :: l, m :: x, h => by
    simp only [dot]
    rw [dot_zero l x (fun a ha => h a (List.mem_cons_of_mem _ ha)), h c List.mem_cons_self]
    simp
theorem gfold_zero {l : List Int} (h : gfold 0 l = 0) : ∀ c ∈ l, c = 0 := by
  intro c hc
  have := (gfold_dvd l 0).2 c hc
  rw [h] at this
  have := Nat.eq_zero_of_zero_dvd this
  omega
theorem flo_spec (K g : Int) (hg : 1 ≤ g) (hK : -1073741824 ≤ K ∧ K ≤ 1073741824) : 0 ≤ K - g * flo K g ∧ K - g * flo K g < g := by
  have h1 := tdiv_bd K g
  have h2 := Int.mul_tdiv_add_tmod K g
  have hb := Int.lt_tmod_of_pos K (show 0 < g by omega)
  have ha := Int.tmod_lt_of_pos K (show 0 < g by omega)
  unfold flo
  rw [w64 (n := Int.tdiv K g) (by omega) (by omega)]
  split
  · rw [w64 (by omega) (by omega), Int.mul_sub]
    omega
  · omega
theorem ge_iff (K g S : Int) (hg : 1 ≤ g) (hK : -1073741824 ≤ K ∧ K ≤ 1073741824) : flo K g + S ≥ 0 ↔ K + g * S ≥ 0 := by
  have h := flo_spec K g hg hK
  have e : K + g * S = (K - g * flo K g) + g * (flo K g + S) := by rw [Int.mul_add]; omega
  rw [e]
  generalize flo K g + S = t at *
  constructor
  · intro ht
    have := Int.mul_nonneg (show (0 : Int) ≤ g by omega) ht
    omega
  · intro ht
    by_cases c : t ≥ 0
    · exact c
    · have := Int.mul_le_mul_of_nonneg_left (show t ≤ -1 by omega) (show (0 : Int) ≤ g by omega)
      omega
def isv (c M v : Int) : Bool := if c = 0 then decide (v ≥ 0) else if c = 1 then v == 0 else (Int.tmod v M == 0)
theorem modv_dvd (n M : Int) (h1 : 1 ≤ M) (h2 : M ≤ 512) : M ∣ n - modv n M := by
  have a := Int.tmod_lt_of_pos n (show 0 < M by omega)
  have b := Int.lt_tmod_of_pos n (show 0 < M by omega)
  have h := Int.mul_tdiv_add_tmod n M
  unfold modv
  split
  · rw [w64 (by omega) (by omega)]
    exact ⟨Int.tdiv n M - 1, by rw [Int.mul_sub]; omega⟩
  · exact ⟨Int.tdiv n M, by omega⟩
theorem dot_mods (M : Int) (h1 : 1 ≤ M) (h2 : M ≤ 512) : ∀ l x : List Int, M ∣ dot l x - dot (mods l M) x
  | [], _ => by simp [dot, mods]
  | _ :: _, [] => by simp [dot, mods]
  | c :: l, m :: x => by
    have ih := dot_mods M h1 h2 l x
    have e : mods (c :: l) M = modv c M :: mods l M := rfl
    rw [e]
    simp only [dot]
    have e2 : c * m + dot l x - (modv c M * m + dot (mods l M) x) = (c - modv c M) * m + (dot l x - dot (mods l M) x) := by rw [Int.sub_mul]; omega
    rw [e2]
    exact Int.dvd_add (Int.dvd_mul_of_dvd_left (modv_dvd c M h1 h2)) ih
theorem tmod_zero_iff (v M : Int) : (Int.tmod v M == 0) = decide (M ∣ v) := by
  by_cases h : M ∣ v
  · simp [h, Int.tmod_eq_zero_of_dvd h]
  · have : Int.tmod v M ≠ 0 := fun h' => h (Int.dvd_of_tmod_eq_zero h')
    rw [beq_eq_false_iff_ne.2 this]
    simp [h]
theorem is_f (c M : Int) (l : List Int) (K : Int) (x : List Int) (hv : condB c M l K = true) (hl : x.length = l.length) (hc : ∀ c ∈ x, -4294967296 ≤ c ∧ c ≤ 4294967296) (k : Nat) (hk : 20 ≤ k) : headlandref03_Is.f k c M l K x = some (isv c M (K + dot l x)) := by
  simp only [condB, Bool.and_eq_true, Bool.or_eq_true, decide_eq_true_eq] at hv
  obtain ⟨hv1, hv2⟩ := hv
  obtain ⟨hf, h12, hK1, hK2⟩ := (valB_iff l K).1 hv1
  unfold headlandref03_Is.f isv
  rw [value_f l x K hl h12 hf ⟨hK1, hK2⟩ hc k hk]
  simp only [Option.bind_some]
  by_cases c0 : c = 0
  · simp [c0]
  · by_cases c1 : c = 1
    · simp [c1]
    · have hM0 : ¬ M = 0 := by omega
      simp [c0, c1, hM0]
theorem holds_cases (c M : Int) (l : List Int) (K : Int) (x : List Int) (hm : l.length ≤ maxLen) :
    (∃ b e, e ≠ 0 ∧ ∀ k, 60 + l.length ≤ k → cond_Holds.f k c M l K x = some (b, e)) ∨
    (condB c M l K = true ∧ x.length = l.length ∧ (∀ n ∈ x, -4294967296 ≤ n ∧ n ≤ 4294967296) ∧ ∀ k, 60 + l.length ≤ k → cond_Holds.f k c M l K x = some (isv c M (K + dot l x), 0)) := by
  have hM : maxLen = 9223372036854775807 := by decide
  by_cases hv : condB c M l K = true
  · have hv' := hv
    simp only [condB, Bool.and_eq_true, Bool.or_eq_true, decide_eq_true_eq] at hv'
    obtain ⟨hv1, hv2⟩ := hv'
    obtain ⟨hf, h12, hK1, hK2⟩ := (valB_iff l K).1 hv1
    by_cases he : x.length = l.length
    · by_cases hx : x.all coordB = true
      · have hc : ∀ n ∈ x, -4294967296 ≤ n ∧ n ≤ 4294967296 := fun n hn => by simpa [coordB] using List.all_eq_true.1 hx n hn
        refine .inr ⟨hv, he, hc, fun k hk => ?_⟩
        obtain ⟨r, h1, h2⟩ := holds_both c M l K x hm k hk
        rw [h1, ← h2]
        unfold headlandref03_Holds.f
        have hp := point_l0 x (by omega) x.length k 0 (by omega) (by omega) (by omega)
        rw [List.drop_zero, Int.natCast_zero, hx] at hp
        have hp' : headlandref02_Point.f k x = some true := hp
        rw [rvalid c M K hm (by omega), hp', is_f c M l K x hv he hc k (by omega)]
        simp [hv, he]
      · refine .inl ⟨false, 6, by decide, fun k hk => ?_⟩
        obtain ⟨r, h1, h2⟩ := holds_both c M l K x hm k hk
        rw [h1, ← h2]
        unfold headlandref03_Holds.f
        have hp := point_l0 x (by omega) x.length k 0 (by omega) (by omega) (by omega)
        simp only [Bool.not_eq_true] at hx
        rw [List.drop_zero, Int.natCast_zero, hx] at hp
        have hp' : headlandref02_Point.f k x = some false := hp
        rw [rvalid c M K hm (by omega), hp']
        simp [hv, he]
    · refine .inl ⟨false, 2, by decide, fun k hk => ?_⟩
      obtain ⟨r, h1, h2⟩ := holds_both c M l K x hm k hk
      rw [h1, ← h2]
      unfold headlandref03_Holds.f
      rw [rvalid c M K hm (by omega)]
      have he' : ¬ (l.length : Int) = (x.length : Int) := by omega
      simp [hv, he']
  · refine .inl ⟨false, 1, by decide, fun k hk => ?_⟩
    unfold cond_Holds.f
    rw [cvalid c M K hm (by omega)]
    simp [hv]
/-- What a maker answers is right at a point. -/
def Good2 (c M : Int) (l : List Int) (K : Int) (x : List Int) (r : Int × Int × List Int × Int × Int) : Prop :=
  (r.2.2.2.2 = 1 ∧ isv c M (K + dot l x) = true) ∨ (r.2.2.2.2 = -1 ∧ isv c M (K + dot l x) = false) ∨
  (r.2.2.2.2 = 0 ∧ r.2.2.1.length = l.length ∧ isv r.1 r.2.1 (r.2.2.2.1 + dot r.2.2.1 x) = isv c M (K + dot l x))
theorem good2_ge {l x : List Int} {K : Int} (hf : ∀ c ∈ l, -1048576 ≤ c ∧ c ≤ 1048576) (hK : -1073741824 ≤ K ∧ K ≤ 1073741824) : Good2 0 0 l K x (outGe l K) := by
  unfold Good2
  by_cases c : gfold 0 l = 0
  · have e : dot l x = 0 := dot_zero l x (gfold_zero c)
    rw [e, Int.add_zero]
    unfold outGe isv
    rw [if_pos c]
    by_cases d : K ≥ 0
    · left; simp [d]
    · right; left; simp [d]
  · right; right
    have e : outGe l K = (0, 0, quo l (gfold 0 l : Nat), flo K (gfold 0 l : Nat), 0) := by unfold outGe; rw [if_neg c]
    refine ⟨by rw [e], by rw [e]; simp [quo], ?_⟩
    rw [e]
    show isv 0 0 _ = _
    unfold isv
    rw [if_pos rfl, if_pos rfl, dot_quo (gfold 0 l : Nat) l x hf (gfold_dvd_int l 0)]
    exact decide_eq_decide.2 (ge_iff K (gfold 0 l : Nat) _ (by omega) hK)
theorem good2_div {l x : List Int} {K M : Int} (h12 : l.length ≤ 12) (hM1 : 1 ≤ M) (hM2 : M ≤ 512) : Good2 2 M l K x (fin (mods l M) K M (gfold M.natAbs (mods l M) : Nat)) := by
  have hp := gfold_pos (mods l M) M.natAbs (by omega)
  have hle := gfold_le (mods l M) M.natAbs (by omega)
  have hdM : ((gfold M.natAbs (mods l M) : Nat) : Int) ∣ M := Int.ofNat_dvd_left.2 (gfold_dvd (mods l M) M.natAbs).1
  have hdT := gfold_dvd_int (mods l M) M.natAbs
  have hTb : ∀ c ∈ mods l M, 0 ≤ c ∧ c < M := by
    intro c hc
    obtain ⟨n, _, rfl⟩ := List.mem_map.1 hc
    exact modv_bd n M hM1 hM2
  have hTf : ∀ c ∈ mods l M, -1048576 ≤ c ∧ c ≤ 1048576 := fun c hc => by have := hTb c hc; omega
  have hKb := modv_bd K M hM1 hM2
  have hcong : M ∣ (K + dot l x) - (modv K M + dot (mods l M) x) := by
    have e : (K + dot l x) - (modv K M + dot (mods l M) x) = (K - modv K M) + (dot l x - dot (mods l M) x) := by omega
    rw [e]
    exact Int.dvd_add (modv_dvd K M hM1 hM2) (dot_mods M hM1 hM2 l x)
  have hiff : M ∣ (K + dot l x) ↔ M ∣ (modv K M + dot (mods l M) x) := by
    constructor
    · intro h
      have := Int.dvd_sub h hcong
      rwa [show (K + dot l x) - ((K + dot l x) - (modv K M + dot (mods l M) x)) = modv K M + dot (mods l M) x by omega] at this
    · intro h
      have := Int.dvd_add hcong h
      rwa [show (K + dot l x) - (modv K M + dot (mods l M) x) + (modv K M + dot (mods l M) x) = K + dot l x by omega] at this
  have hisv : isv 2 M (K + dot l x) = decide (M ∣ (modv K M + dot (mods l M) x)) := by
    unfold isv
    rw [if_neg (by decide), if_neg (by decide), tmod_zero_iff]
    exact decide_eq_decide.2 hiff
  have hdq := dot_quo ((gfold M.natAbs (mods l M) : Nat) : Int) (mods l M) x hTf hdT
  obtain ⟨h, hh⟩ : ∃ h : Int, h = ((gfold M.natAbs (mods l M) : Nat) : Int) := ⟨_, rfl⟩
  have hhp : 1 ≤ h := by omega
  have hhM : h ≤ M := by omega
  rw [← hh] at hdM hdq hdT ⊢
  unfold Good2
  rw [hisv, hdq]
  by_cases d : Int.tmod (modv K M) h = 0
  · have hdK : h ∣ modv K M := Int.dvd_of_tmod_eq_zero d
    have eK : h * Int.tdiv (modv K M) h = modv K M := Int.mul_tdiv_cancel' hdK
    have eM : h * Int.tdiv M h = M := Int.mul_tdiv_cancel' hdM
    by_cases e : M = h
    · left
      refine ⟨by unfold fin; rw [if_pos d, if_pos e], ?_⟩
      rw [decide_eq_true_eq]
      have : h ∣ modv K M + h * dot (quo (mods l M) h) x := Int.dvd_add hdK ⟨_, rfl⟩
      rw [← e] at this ⊢
      exact this
    · right; right
      have bK := tdiv_bd (modv K M) h
      have bM := tdiv_bd M h
      have er : fin (mods l M) K M h = (2, Int.tdiv M h, quo (mods l M) h, Int.tdiv (modv K M) h, 0) := by
        unfold fin
        rw [if_pos d, if_neg e, w64 (n := Int.tdiv M h) (by omega) (by omega), w64 (n := Int.tdiv (modv K M) h) (by omega) (by omega)]
      generalize hMq : Int.tdiv M h = M' at *
      generalize hKq : Int.tdiv (modv K M) h = K' at *
      refine ⟨by rw [er], by rw [er]; simp [quo, mods], ?_⟩
      · rw [er]
        show isv 2 M' (K' + dot (quo (mods l M) h) x) = _
        unfold isv
        rw [if_neg (by decide), if_neg (by decide), tmod_zero_iff, ← eK, ← Int.mul_add]
        have hx : h * M' ∣ h * (K' + dot (quo (mods l M) h) x) ↔ M' ∣ K' + dot (quo (mods l M) h) x := Int.mul_dvd_mul_iff_left (show h ≠ 0 by omega)
        rw [eM] at hx
        exact decide_eq_decide.2 hx.symm
  · right; left
    refine ⟨by unfold fin; rw [if_neg d], ?_⟩
    rw [decide_eq_false_iff_not]
    intro hc
    apply d
    apply Int.tmod_eq_zero_of_dvd
    have h1 : h ∣ modv K M + h * dot (quo (mods l M) h) x := Int.dvd_trans hdM hc
    have h2 := Int.dvd_sub h1 (⟨_, rfl⟩ : h ∣ h * dot (quo (mods l M) h) x)
    rwa [Int.add_sub_cancel] at h2
end Go.Proofs.Ytcakhbhjdpplcaa.Lp
