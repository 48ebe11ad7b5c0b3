/- Plain laws behind CondNegates: what the makers' answers say at a point. -/
import Derived.Test.YtcakhbhjdpplcaaLpM
import Derived.Test.YtcakhbhjdpplcaaNr1
namespace Go.Proofs.Ytcakhbhjdpplcaa.Lp
open Go.RowKit Go.Proofs.Ytcakhbhjdpplcaa.Aa Go.Proofs.Ytcakhbhjdpplcaa.Man Go.Proofs.Ytcakhbhjdpplcaa.Nr Go.Proofs.YtcakhbhjdpplcaaW.PrintWords Go.Proofs.YtcakhbhjdpplcaaW.PrintLast
set_option linter.unusedVariables false
set_option linter.unusedSimpArgs false
/-- The sum of products. -/
def dot : List Int → List Int → Int
  | c :: l, n :: x => c * n + dot l x
  | _, _ => 0
theorem prod_bd {a b : Int} (ha : -1048576 ≤ a ∧ a ≤ 1048576) (hb : -4294967296 ≤ b ∧ b ≤ 4294967296) : -4503599627370496 ≤ a * b ∧ a * b ≤ 4503599627370496 := by
  have h1 : (a * b).natAbs ≤ 1048576 * 4294967296 := by rw [Int.natAbs_mul]; exact Nat.mul_le_mul (by omega) (by omega)
  omega
theorem dot_bd : ∀ (l x : List Int) (n : Nat), l.length ≤ n → (∀ c ∈ l, -1048576 ≤ c ∧ c ≤ 1048576) → (∀ c ∈ x, -4294967296 ≤ c ∧ c ≤ 4294967296) → -4503599627370496 * n ≤ dot l x ∧ dot l x ≤ 4503599627370496 * n
  | [], _, n, _, _, _ => by simp only [dot]; omega
  | _ :: _, [], n, _, _, _ => by simp only [dot]; omega
  | c :: l, m :: x, n, hn, hl, hx => by
    obtain ⟨n, rfl⟩ : ∃ k, n = k + 1 := ⟨n - 1, by simp at hn; omega⟩
    have h1 := dot_bd l x n (by simpa using hn) (fun a h => hl a (List.mem_cons_of_mem _ h)) (fun a h => hx a (List.mem_cons_of_mem _ h))
    have h2 := prod_bd (hl c List.mem_cons_self) (hx m List.mem_cons_self)
    simp only [dot]
    omega
/-- All coefficients divided. -/
theorem dot_quo (g : Int) : ∀ (l x : List Int), (∀ c ∈ l, -1048576 ≤ c ∧ c ≤ 1048576) → (∀ c ∈ l, g ∣ c) → dot l x = g * dot (quo l g) x
  | [], _, _, _ => by simp [dot, quo]
  | _ :: _, [], _, _ => by simp [dot, quo]
  | c :: l, m :: x, hf, hd => by
    have ih := dot_quo g l x (fun a h => hf a (List.mem_cons_of_mem _ h)) (fun a h => hd a (List.mem_cons_of_mem _ h))
    have e : quo (c :: l) g = wrap64 (Int.tdiv c g) :: quo l g := rfl
    have hb := tdiv_bd c g
    have hc := hf c List.mem_cons_self
    have hg : g * Int.tdiv c g = c := Int.mul_tdiv_cancel' (hd c List.mem_cons_self)
    rw [e]
    simp only [dot]
    rw [w64 (by omega) (by omega), ih, Int.mul_add, ← Int.mul_assoc, hg]
theorem gfold_dvd (l : List Int) : ∀ g, gfold g l ∣ g ∧ ∀ x ∈ l, gfold g l ∣ x.natAbs := by
  induction l with
  | nil => intro g; exact ⟨Nat.dvd_refl _, fun x hx => by cases hx⟩
  | cons a l ih =>
    intro g
    obtain ⟨h1, h2⟩ := ih (Nat.gcd g a.natAbs)
    refine ⟨Nat.dvd_trans h1 (Nat.gcd_dvd_left _ _), fun x hx => ?_⟩
    rcases List.mem_cons.1 hx with rfl | hx
    · exact Nat.dvd_trans h1 (Nat.gcd_dvd_right _ _)
    · exact h2 x hx
theorem gfold_dvd_int (l : List Int) (g : Nat) : ∀ x ∈ l, ((gfold g l : Nat) : Int) ∣ x := fun x hx => Int.ofNat_dvd_left.2 ((gfold_dvd l g).2 x hx)
theorem dot_zero : ∀ (l x : List Int), (∀ c ∈ l, c = 0) → dot l x = 0
  | [], _, _ => by simp [dot]
  | _ :: _, [], _ => by simp [dot]
  | c :: l, m :: x, h => by
    simp only [dot]
    rw [dot_zero l x (fun a ha => h a (List.mem_cons_of_mem _ ha)), h c List.mem_cons_self]
    simp
theorem gfold_zero {l : List Int} (h : gfold 0 l = 0) : ∀ c ∈ l, c = 0 := by
  intro c hc
  have := (gfold_dvd l 0).2 c hc
  rw [h] at this
  have := Nat.eq_zero_of_zero_dvd this
  omega
theorem flo_spec (K g : Int) (hg : 1 ≤ g) (hK : -1073741824 ≤ K ∧ K ≤ 1073741824) : 0 ≤ K - g * flo K g ∧ K - g * flo K g < g := by
  have h1 := tdiv_bd K g
  have h2 := Int.mul_tdiv_add_tmod K g
  have hb := Int.lt_tmod_of_pos K (show 0 < g by omega)
  have ha := Int.tmod_lt_of_pos K (show 0 < g by omega)
  unfold flo
  rw [w64 (n := Int.tdiv K g) (by omega) (by omega)]
  split
  · rw [w64 (by omega) (by omega), Int.mul_sub]
    omega
  · omega
theorem ge_iff (K g S : Int) (hg : 1 ≤ g) (hK : -1073741824 ≤ K ∧ K ≤ 1073741824) : flo K g + S ≥ 0 ↔ K + g * S ≥ 0 := by
  have h := flo_spec K g hg hK
  have e : K + g * S = (K - g * flo K g) + g * (flo K g + S) := by rw [Int.mul_add]; omega
  rw [e]
  generalize flo K g + S = t at *
  constructor
  · intro ht
    have := Int.mul_nonneg (show (0 : Int) ≤ g by omega) ht
    omega
  · intro ht
    by_cases c : t ≥ 0
    · exact c
    · have := Int.mul_le_mul_of_nonneg_left (show t ≤ -1 by omega) (show (0 : Int) ≤ g by omega)
      omega
def isv (c M v : Int) : Bool := if c = 0 then decide (v ≥ 0) else if c = 1 then v == 0 else (Int.tmod v M == 0)
theorem modv_dvd (n M : Int) (h1 : 1 ≤ M) (h2 : M ≤ 512) : M ∣ n - modv n M := by
  have a := Int.tmod_lt_of_pos n (show 0 < M by omega)
  have b := Int.lt_tmod_of_pos n (show 0 < M by omega)
  have h := Int.mul_tdiv_add_tmod n M
  unfold modv
  split
  · rw [w64 (by omega) (by omega)]
    exact ⟨Int.tdiv n M - 1, by rw [Int.mul_sub]; omega⟩
  · exact ⟨Int.tdiv n M, by omega⟩
theorem dot_mods (M : Int) (h1 : 1 ≤ M) (h2 : M ≤ 512) : ∀ l x : List Int, M ∣ dot l x - dot (mods l M) x
  | [], _ => by simp [dot, mods]
  | _ :: _, [] => by simp [dot, mods]
  | c :: l, m :: x => by
    have ih := dot_mods M h1 h2 l x
    have e : mods (c :: l) M = modv c M :: mods l M := rfl
    rw [e]
    simp only [dot]
    have e2 : c * m + dot l x - (modv c M * m + dot (mods l M) x) = (c - modv c M) * m + (dot l x - dot (mods l M) x) := by rw [Int.sub_mul]; omega
    rw [e2]
    exact Int.dvd_add (Int.dvd_mul_of_dvd_left (modv_dvd c M h1 h2)) ih
theorem tmod_zero_iff (v M : Int) : (Int.tmod v M == 0) = decide (M ∣ v) := by
  by_cases h : M ∣ v
  · simp [h, Int.tmod_eq_zero_of_dvd h]
  · have : Int.tmod v M ≠ 0 := fun h' => h (Int.dvd_of_tmod_eq_zero h')
    rw [beq_eq_false_iff_ne.2 this]
    simp [h]
/-- What a maker answers is right at a point. -/
def Good2 (c M : Int) (l : List Int) (K : Int) (x : List Int) (r : Int × Int × List Int × Int × Int) : Prop :=
  (r.2.2.2.2 = 1 ∧ isv c M (K + dot l x) = true) ∨ (r.2.2.2.2 = -1 ∧ isv c M (K + dot l x) = false) ∨
  (r.2.2.2.2 = 0 ∧ r.2.2.1.length = l.length ∧ isv r.1 r.2.1 (r.2.2.2.1 + dot r.2.2.1 x) = isv c M (K + dot l x))
theorem good2_ge {l x : List Int} {K : Int} (hf : ∀ c ∈ l, -1048576 ≤ c ∧ c ≤ 1048576) (hK : -1073741824 ≤ K ∧ K ≤ 1073741824) : Good2 0 0 l K x (outGe l K) := by
  unfold Good2
  by_cases c : gfold 0 l = 0
  · have e : dot l x = 0 := dot_zero l x (gfold_zero c)
    rw [e, Int.add_zero]
    unfold outGe isv
    rw [if_pos c]
    by_cases d : K ≥ 0
    · left; simp [d]
    · right; left; simp [d]
  · right; right
    have e : outGe l K = (0, 0, quo l (gfold 0 l : Nat), flo K (gfold 0 l : Nat), 0) := by unfold outGe; rw [if_neg c]
    refine ⟨by rw [e], by rw [e]; simp [quo], ?_⟩
    rw [e]
    show isv 0 0 _ = _
    unfold isv
    rw [if_pos rfl, if_pos rfl, dot_quo (gfold 0 l : Nat) l x hf (gfold_dvd_int l 0)]
    exact decide_eq_decide.2 (ge_iff K (gfold 0 l : Nat) _ (by omega) hK)
theorem good2_div {l x : List Int} {K M : Int} (h12 : l.length ≤ 12) (hM1 : 1 ≤ M) (hM2 : M ≤ 512) : Good2 2 M l K x (fin (mods l M) K M (gfold M.natAbs (mods l M) : Nat)) := by
  have hp := gfold_pos (mods l M) M.natAbs (by omega)
  have hle := gfold_le (mods l M) M.natAbs (by omega)
  have hdM : ((gfold M.natAbs (mods l M) : Nat) : Int) ∣ M := Int.ofNat_dvd_left.2 (gfold_dvd (mods l M) M.natAbs).1
  have hdT := gfold_dvd_int (mods l M) M.natAbs
  have hTb : ∀ c ∈ mods l M, 0 ≤ c ∧ c < M := by
    intro c hc
    obtain ⟨n, _, rfl⟩ := List.mem_map.1 hc
    exact modv_bd n M hM1 hM2
  have hTf : ∀ c ∈ mods l M, -1048576 ≤ c ∧ c ≤ 1048576 := fun c hc => by have := hTb c hc; omega
  have hKb := modv_bd K M hM1 hM2
  have hcong : M ∣ (K + dot l x) - (modv K M + dot (mods l M) x) := by
    have e : (K + dot l x) - (modv K M + dot (mods l M) x) = (K - modv K M) + (dot l x - dot (mods l M) x) := by omega
    rw [e]
    exact Int.dvd_add (modv_dvd K M hM1 hM2) (dot_mods M hM1 hM2 l x)
  have hiff : M ∣ (K + dot l x) ↔ M ∣ (modv K M + dot (mods l M) x) := by
    constructor
    · intro h
      have := Int.dvd_sub h hcong
      rwa [show (K + dot l x) - ((K + dot l x) - (modv K M + dot (mods l M) x)) = modv K M + dot (mods l M) x by omega] at this
    · intro h
      have := Int.dvd_add hcong h
      rwa [show (K + dot l x) - (modv K M + dot (mods l M) x) + (modv K M + dot (mods l M) x) = K + dot l x by omega] at this
  have hisv : isv 2 M (K + dot l x) = decide (M ∣ (modv K M + dot (mods l M) x)) := by
    unfold isv
    rw [if_neg (by decide), if_neg (by decide), tmod_zero_iff]
    exact decide_eq_decide.2 hiff
  have hdq := dot_quo ((gfold M.natAbs (mods l M) : Nat) : Int) (mods l M) x hTf hdT
  obtain ⟨h, hh⟩ : ∃ h : Int, h = ((gfold M.natAbs (mods l M) : Nat) : Int) := ⟨_, rfl⟩
  have hhp : 1 ≤ h := by omega
  have hhM : h ≤ M := by omega
  rw [← hh] at hdM hdq hdT ⊢
  unfold Good2
  rw [hisv, hdq]
  by_cases d : Int.tmod (modv K M) h = 0
  · have hdK : h ∣ modv K M := Int.dvd_of_tmod_eq_zero d
    have eK : h * Int.tdiv (modv K M) h = modv K M := Int.mul_tdiv_cancel' hdK
    have eM : h * Int.tdiv M h = M := Int.mul_tdiv_cancel' hdM
    by_cases e : M = h
    · left
      refine ⟨by unfold fin; rw [if_pos d, if_pos e], ?_⟩
      rw [decide_eq_true_eq]
      have : h ∣ modv K M + h * dot (quo (mods l M) h) x := Int.dvd_add hdK ⟨_, rfl⟩
      rw [← e] at this ⊢
      exact this
    · right; right
      have bK := tdiv_bd (modv K M) h
      have bM := tdiv_bd M h
      have er : fin (mods l M) K M h = (2, Int.tdiv M h, quo (mods l M) h, Int.tdiv (modv K M) h, 0) := by
        unfold fin
        rw [if_pos d, if_neg e, w64 (n := Int.tdiv M h) (by omega) (by omega), w64 (n := Int.tdiv (modv K M) h) (by omega) (by omega)]
      generalize hMq : Int.tdiv M h = M' at *
      generalize hKq : Int.tdiv (modv K M) h = K' at *
      refine ⟨by rw [er], by rw [er]; simp [quo, mods], ?_⟩
      · rw [er]
        show isv 2 M' (K' + dot (quo (mods l M) h) x) = _
        unfold isv
        rw [if_neg (by decide), if_neg (by decide), tmod_zero_iff, ← eK, ← Int.mul_add]
        have hx : h * M' ∣ h * (K' + dot (quo (mods l M) h) x) ↔ M' ∣ K' + dot (quo (mods l M) h) x := Int.mul_dvd_mul_iff_left (show h ≠ 0 by omega)
        rw [eM] at hx
        exact decide_eq_decide.2 hx.symm
  · right; left
    refine ⟨by unfold fin; rw [if_neg d], ?_⟩
    rw [decide_eq_false_iff_not]
    intro hc
    apply d
    apply Int.tmod_eq_zero_of_dvd
    have h1 : h ∣ modv K M + h * dot (quo (mods l M) h) x := Int.dvd_trans hdM hc
    have h2 := Int.dvd_sub h1 (⟨_, rfl⟩ : h ∣ h * dot (quo (mods l M) h) x)
    rwa [Int.add_sub_cancel] at h2
end Go.Proofs.Ytcakhbhjdpplcaa.Lp
