/- The law behind CondOther, and the walk in the form that the row asks for. -/
import Derived.Test.YtcakhbhjdpplcaaLpY
import Derived.Test.YtcakhbhjdpplcaaOo
namespace Go.Proofs.Ytcakhbhjdpplcaa.Lp
open Go.RowKit Go.Proofs.Ytcakhbhjdpplcaa.Aa Go.Proofs.Ytcakhbhjdpplcaa.Nr Go.Proofs.Ytcakhbhjdpplcaa.Ho Go.Proofs.YtcakhbhjdpplcaaW.PrintWords Go.Proofs.YtcakhbhjdpplcaaW.PrintLast Go.Proofs.Ytcakhbhjdpplcaa.Kc
set_option linter.unusedVariables false
set_option linter.unusedSimpArgs false
theorem hol_ge (x l : List Int) (K : Int) : hol x ⟨0, 0, ⟨l, K⟩⟩ = decide (K + dot l x ≥ 0) := by
  unfold hol isv
  exact if_pos rfl
theorem filt1 (p : S26 → Bool) (a : S26) : ([a].filter p).length = if p a = true then 1 else 0 := by
  by_cases h : p a = true
  · rw [if_pos h, List.filter_cons_of_pos h]; rfl
  · rw [if_neg h, List.filter_cons_of_neg h]; rfl
theorem filt2 (p : S26 → Bool) (a b : S26) : ([a, b].filter p).length = (if p a = true then 1 else 0) + if p b = true then 1 else 0 := by
  rw [← filt1 p b]
  by_cases h : p a = true
  · rw [if_pos h, List.filter_cons_of_pos h, List.length_cons]; omega
  · rw [if_neg h, List.filter_cons_of_neg h]; omega
theorem dvd_sub_iff (M v a : Int) (h0 : 0 ≤ a) (h1 : a < M) : M ∣ v - a ↔ v % M = a := by
  rw [Int.dvd_iff_emod_eq_zero, ← Int.emod_eq_emod_iff_emod_sub_eq_zero, Int.emod_eq_of_lt h0 h1]
theorem cnt_div (M v : Int) (hM : 1 ≤ M) : ∀ n : Nat, (n : Int) < M → ((List.range n).filter (fun r : Nat => decide (M ∣ v - ((r : Int) + 1)))).length = if 1 ≤ v % M ∧ v % M ≤ (n : Int) then 1 else 0
  | 0, _ => by
    rw [if_neg (by omega)]
    rfl
  | n + 1, h => by
    have ih := cnt_div M v hM n (by omega)
    have hd := dvd_sub_iff M v ((n : Int) + 1) (by omega) (by omega)
    rw [List.range_succ, List.filter_append, List.length_append, ih]
    by_cases c : v % M = (n : Int) + 1
    · rw [if_neg (by omega), if_pos (by omega), List.filter_cons_of_pos (by simpa using hd.2 c)]
      rfl
    · have hn : ¬ (M ∣ v - ((n : Int) + 1)) := fun h => c (hd.1 h)
      rw [List.filter_cons_of_neg (by simpa using hn)]
      by_cases d : 1 ≤ v % M ∧ v % M ≤ (n : Int)
      · rw [if_pos d, if_pos (by omega)]
        rfl
      · rw [if_neg d, if_neg (by omega)]
        rfl
theorem oth_count (c M : Int) (l x : List Int) (K : Int) (hf : ∀ c ∈ l, -1048576 ≤ c ∧ c ≤ 1048576) (hK : -1048576 ≤ K ∧ K ≤ 1048576) (hc : c = 0 ∨ c = 1 ∨ (c = 2 ∧ 1 ≤ M ∧ M ≤ 512)) :
    (if isv c M (K + dot l x) = true then 1 else 0) + ((oths c M l K).filter (hol x)).length = 1 := by
  have e1 : wrap64 (-1 - K) = -1 - K := w64 (by omega) (by omega)
  have e2 : wrap64 (K - 1) = K - 1 := w64 (by omega) (by omega)
  have en := dot_negs l x hf
  unfold oths
  rcases hc with rfl | rfl | ⟨rfl, h1, h2⟩
  · rw [if_pos (show (0 : Int) = 0 from rfl), filt1, hol_ge, e1, en]
    unfold isv
    rw [if_pos rfl]
    simp only [decide_eq_true_eq]
    by_cases d : K + dot l x ≥ 0
    · rw [if_pos d, if_neg (by omega)]
    · rw [if_neg d, if_pos (by omega)]
  · rw [if_neg (show ¬ (1 : Int) = 0 by decide), if_pos (show (1 : Int) = 1 from rfl), filt2, hol_ge, hol_ge, e1, e2, en]
    unfold isv
    rw [if_neg (show ¬ (1 : Int) = 0 by decide), if_pos (show (1 : Int) = 1 from rfl)]
    simp only [decide_eq_true_eq, beq_iff_eq]
    by_cases d : K + dot l x = 0
    · rw [if_pos d, if_neg (by omega), if_neg (by omega)]
    · rw [if_neg d]
      by_cases d2 : K + dot l x ≥ 0
      · rw [if_pos (by omega), if_neg (by omega)]
      · rw [if_neg (by omega), if_pos (by omega)]
  · rw [if_neg (show ¬ (2 : Int) = 0 by decide), if_neg (show ¬ (2 : Int) = 1 by decide), List.filter_map, List.length_map]
    have hh : ∀ r ∈ List.range (M - 1).toNat, (hol x ∘ Man.other M l K) r = decide (M ∣ (K + dot l x) - ((r : Int) + 1)) := by
      intro r hr
      have hr' := List.mem_range.1 hr
      have e3 : wrap64 (K - ((r : Int) + 1)) = K - ((r : Int) + 1) := w64 (by omega) (by omega)
      show isv 2 M (wrap64 (K - ((r : Int) + 1)) + dot l x) = _
      unfold isv
      rw [if_neg (show ¬ (2 : Int) = 0 by decide), if_neg (show ¬ (2 : Int) = 1 by decide), tmod_zero_iff, e3, show K - ((r : Int) + 1) + dot l x = K + dot l x - ((r : Int) + 1) by omega]
    rw [List.filter_congr hh, cnt_div M (K + dot l x) h1 _ (by omega)]
    unfold isv
    rw [if_neg (show ¬ (2 : Int) = 0 by decide), if_neg (show ¬ (2 : Int) = 1 by decide), tmod_zero_iff]
    simp only [decide_eq_true_eq]
    have ha := Int.emod_nonneg (K + dot l x) (show M ≠ 0 by omega)
    have hb := Int.emod_lt_of_pos (K + dot l x) (show 0 < M by omega)
    by_cases d : M ∣ K + dot l x
    · have := Int.emod_eq_zero_of_dvd d
      rw [if_pos d, if_neg (by omega)]
    · have : (K + dot l x) % M ≠ 0 := fun h => d (Int.dvd_of_emod_eq_zero h)
      rw [if_neg d, if_pos (by omega)]
theorem oths_len (c M : Int) (l : List Int) (K : Int) (hc : c = 0 ∨ c = 1 ∨ (c = 2 ∧ 1 ≤ M ∧ M ≤ 512)) : (oths c M l K).length ≤ 1000 := by
  unfold oths
  rcases hc with rfl | rfl | ⟨rfl, h1, h2⟩
  · rw [if_pos (show (0 : Int) = 0 from rfl)]; simp
  · rw [if_neg (show ¬ (1 : Int) = 0 by decide), if_pos (show (1 : Int) = 1 from rfl)]; simp
  · rw [if_neg (show ¬ (2 : Int) = 0 by decide), if_neg (show ¬ (2 : Int) = 1 by decide)]; simp; omega
theorem neg_ev (c M : Int) (l : List Int) (K : Int) (hm : l.length ≤ maxLen) : ∃ xs f, xs.length ≤ 1000 ∧ (f = 0 → negL l.length [] (oths c M l K) = (xs, 0)) ∧ ∃ k0, ∀ k, k0 ≤ k → Gn.cond_Negate.f k c M l K = some (xs, f) := by
  by_cases hv : condB c M l K = true
  · have hv' := hv
    simp only [condB, Bool.and_eq_true, Bool.or_eq_true, decide_eq_true_eq] at hv'
    obtain ⟨hv1, hv2⟩ := hv'
    obtain ⟨hf, h12, hK1, hK2⟩ := (valB_iff l K).1 hv1
    have hc : c = 0 ∨ c = 1 ∨ (c = 2 ∧ 1 ≤ M ∧ M ≤ 512) := by omega
    have hlen := oths_len c M l K hc
    obtain ⟨k0, h⟩ := neg_l0 h12 c M K l rfl (oths c M l K) hlen (ok_oths c M l K hf ⟨hK1, hK2⟩ hc) (oths c M l K).length 0 [] (by omega) (by simp)
    rw [List.drop_zero, Int.natCast_zero] at h
    have hle := negL_len l.length (oths c M l K) []
    refine ⟨(negL l.length [] (oths c M l K)).1, (negL l.length [] (oths c M l K)).2, by simp only [List.length_nil] at hle; omega, fun h => by rw [← h], k0 + 60, fun k hk => ?_⟩
    unfold Gn.cond_Negate.f
    rw [cvalid c M K hm (by omega), Option.bind_some, if_pos hv, oths_f c M l K h12 hc k (by omega), Option.bind_some]
    exact h k (by omega)
  · refine ⟨[], 1, by simp, fun h => by omega, l.length + 60, fun k hk => ?_⟩
    unfold Gn.cond_Negate.f
    rw [cvalid c M K hm (by omega), Option.bind_some, if_neg hv]
theorem walkOther (c0 m0 : Int) (a0 : Option Addr) (len0 cap0 : Nat) (z0 : List Int) (b0 : Int) (a1 : Option Addr) (len1 cap1 : Nat) (z1 : List Int) (w : World) (v0 : (Lit.int .i64 c0).wf = true) (u0 : (Lit.int .i64 m0).wf = true)
    (w0 : (a0 = none ∧ len0 = 0 ∧ cap0 = 0 ∧ z0 = []) ∨ ∃ x, a0 = some x ∧ len0 ≤ cap0 ∧ cap0 ≤ maxLen ∧ z0.length = cap0 ∧ (∀ i, i < z0.length → w.cell? (x.add i) = some (.int .i64 (z0.getD i 0))) ∧ ∀ n ∈ z0, (Lit.int .i64 n).wf = true) (x0 : (Lit.int .i64 b0).wf = true)
    (w1 : (a1 = none ∧ len1 = 0 ∧ cap1 = 0 ∧ z1 = []) ∨ ∃ x, a1 = some x ∧ len1 ≤ cap1 ∧ cap1 ≤ maxLen ∧ z1.length = cap1 ∧ (∀ i, i < z1.length → w.cell? (x.add i) = some (.int .i64 (z1.getD i 0))) ∧ ∀ n ∈ z1, (Lit.int .i64 n).wf = true) (y1 : len1 * 8 ≤ 140737488351232) :
    Calls Try.prog 8 #[.agg #[.int .i64 c0, .int .i64 m0, .slice a0 len0 cap0, .int .i64 b0], .slice a1 len1 cap1] w fun e w' => e = .returned (.bool true) ∧ Below w.heap.size w w' := by
  have hM : maxLen = 9223372036854775807 := by decide
  obtain ⟨l0, rfl, hr0, hm0, hw0, hc0⟩ := ReadsInt.ofRowC w0
  obtain ⟨l1, rfl, hr1, hm1, hw1, hc1⟩ := ReadsInt.ofRowC w1
  have C0 := Kd.C_of_reads (d := (0 : Int)) (h1 := fun _ => rfl) hr0
  have C1 := Kd.C_of_reads (d := (0 : Int)) (h1 := fun _ => rfl) hr1
  obtain ⟨xs, f, hx, hneg, k0, hN⟩ := neg_ev c0 m0 l0 b0 hm0
  have haw : Nr.headlandlaw03_awake.f (80 + (20 + (k0 + l0.length))) = some true := Nr.headlandlaw03_awake.ge _
  rcases holds_cases c0 m0 l0 b0 l1 hm0 with ⟨b, e, he, hh⟩ | ⟨hv, hl, hcs, hh⟩
  · exact Oo.other_walk (80 + (20 + (k0 + l0.length))) c0 m0 a0 cap0 l0 b0 a1 cap1 l1 w C0 hc0 C1 hc1 (by omega) b e f xs (hh _ (by omega)) (hN _ (by omega)) haw (fun _ => true) (fun h => absurd h he) (fun h => absurd h he) hx
  · have hv' := hv
    simp only [condB, Bool.and_eq_true, Bool.or_eq_true, decide_eq_true_eq] at hv'
    obtain ⟨hv1, hv2⟩ := hv'
    obtain ⟨hf, h12, hK1, hK2⟩ := (valB_iff l0 b0).1 hv1
    have hc : c0 = 0 ∨ c0 = 1 ∨ (c0 = 2 ∧ 1 ≤ m0 ∧ m0 ≤ 512) := by omega
    have hsp := fun hf0 => negL_spec h12 l1 (oths c0 m0 l0 b0) [] xs (ok_oths c0 m0 l0 b0 hf ⟨hK1, hK2⟩ hc) (hneg hf0) (fun a h => absurd h List.not_mem_nil)
    refine Oo.other_walk (80 + (20 + (k0 + l0.length))) c0 m0 a0 cap0 l0 b0 a1 cap1 l1 w C0 hc0 C1 hc1 (by omega) _ 0 f xs (hh _ (by omega)) (hN _ (by omega)) haw (hol l1) (fun _ hf0 x hxm => ?_) (fun _ hf0 => ?_) hx
    · obtain ⟨q1, q2⟩ := (hsp hf0).1 x hxm
      refine ⟨?_, by omega, ?_⟩
      · rw [rvalid _ _ _ (by omega) (by omega), q1]
      · exact is_f _ _ _ _ _ q1 (by omega) hcs _ (by omega)
    · have h2 := (hsp hf0).2
      have h3 := oth_count c0 m0 l0 l1 b0 hf ⟨hK1, hK2⟩ hc
      unfold Oo.cnt
      rw [List.take_length, h2]
      simp only [List.filter_nil, List.length_nil]
      omega
end Go.Proofs.Ytcakhbhjdpplcaa.Lp
