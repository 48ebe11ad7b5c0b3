/- The plain law behind CondOwn (each function answers something at every condition), and the walk in the form that the row asks for. -/
import Derived.Test.YtcakhbhjdpplcaaLpY
import Derived.Test.YtcakhbhjdpplcaaOc
namespace Go.Proofs.Ytcakhbhjdpplcaa.Lp
open Go.RowKit Go.Proofs.Ytcakhbhjdpplcaa.Aa Go.Proofs.Ytcakhbhjdpplcaa.Man Go.Proofs.Ytcakhbhjdpplcaa.Nr Go.Proofs.Ytcakhbhjdpplcaa.Cq Go.Proofs.Ytcakhbhjdpplcaa.Cc Go.Proofs.Ytcakhbhjdpplcaa.Ho Go.Proofs.YtcakhbhjdpplcaaW.PrintWords Go.Proofs.YtcakhbhjdpplcaaW.PrintLast Go.Proofs.Ytcakhbhjdpplcaa.Kc
set_option linter.unusedVariables false
set_option linter.unusedSimpArgs false
def cm (a b : Int) : Int := if a < b then -1 else if a > b then 1 else 0
def ord : List Int → List Int → Int
  | x :: xs, y :: ys => if cm x y = 0 then ord xs ys else cm x y
  | _, _ => 0
theorem cmp_int (a b : Int) : cmp_Compare_int.f a b = some (cm a b) := by
  unfold cmp_Compare_int.f cmp_isNaN_int.f cm
  simp only [bne_self_eq_false, Option.bind_some, Bool.false_eq_true, if_false]
  split
  · rfl
  · split <;> rfl
theorem or_int (a b : Int) (k : Nat) (hk : 3 ≤ k) : cmp_Or_int.f k [a, b] = some (if a = 0 then b else a) := by
  obtain ⟨k, rfl⟩ : ∃ m, k = m + 3 := ⟨k - 3, by omega⟩
  unfold cmp_Or_int.f
  simp only [cmp_Or_int.l0, List.length_cons, List.length_nil, Nat.reduceAdd, Int.cast_ofNat_Int, Int.reduceLT, Int.reduceLE, if_true, Int.zero_add]
  have e1 : wrap64 1 = 1 := w64 (by omega) (by omega)
  have e2 : wrap64 (1 + 1) = 2 := w64 (n := 1 + 1) (by omega) (by omega)
  have r0 : rd [a, b] 0 = a := rfl
  have r1 : rd [a, b] 1 = b := rfl
  rw [e1, e2, r0, r1]
  by_cases h : a = 0
  · rw [if_pos h, if_pos h]
    by_cases h2 : b = 0
    · simp [h2]
    · simp [h2]
  · rw [if_neg h, if_neg h]
theorem slices_l0 (l m : List Int) (hm : l.length ≤ maxLen) (hlm : m.length = l.length) : ∀ (d k i : Nat), i ≤ l.length → l.length - i = d → d < k →
    slices_Compare_int_int.l0 k l m l (l.length : Int) (i : Int) = some (ord (l.drop i) (m.drop i)) := by
  have hM : maxLen = 9223372036854775807 := by decide
  intro d
  induction d with
  | zero =>
    intro k i h0 hd hk
    obtain ⟨k, rfl⟩ : ∃ m, k = m + 1 := ⟨k - 1, by omega⟩
    simp only [slices_Compare_int_int.l0]
    rw [if_neg (by omega), if_neg (by omega), List.drop_eq_nil_of_le (by omega), List.drop_eq_nil_of_le (by omega)]
    rfl
  | succ d ih =>
    intro k i h0 hd hk
    obtain ⟨k, rfl⟩ : ∃ m, k = m + 1 := ⟨k - 1, by omega⟩
    have hlt : i < l.length := by omega
    have hlt2 : i < m.length := by omega
    simp only [slices_Compare_int_int.l0, cmp_int, Option.bind_some]
    rw [if_pos (by omega), if_pos (by omega), if_pos (by omega), if_neg (by omega), if_pos (by omega), rd_nat l i hlt, rd_nat m i hlt2, List.drop_eq_getElem_cons hlt, List.drop_eq_getElem_cons hlt2]
    simp only [ord]
    by_cases e : cm l[i] m[i] = 0
    · rw [if_pos e, if_pos e, w64 (by omega) (by omega)]
      have := ih k (i + 1) (by omega) (by omega) (by omega)
      rw [Int.natCast_succ] at this
      exact this
    · rw [if_neg e, if_neg e]
theorem or3_int (a b c : Int) (k : Nat) (hk : 4 ≤ k) : cmp_Or_int.f k [a, b, c] = some (if a = 0 then (if b = 0 then c else b) else a) := by
  obtain ⟨k, rfl⟩ : ∃ m, k = m + 4 := ⟨k - 4, by omega⟩
  unfold cmp_Or_int.f
  simp only [cmp_Or_int.l0, List.length_cons, List.length_nil, Nat.reduceAdd, Int.cast_ofNat_Int, Int.reduceLT, Int.reduceLE, if_true, Int.zero_add]
  have e1 : wrap64 1 = 1 := w64 (by omega) (by omega)
  have e2 : wrap64 (1 + 1) = 2 := w64 (n := 1 + 1) (by omega) (by omega)
  have e3 : wrap64 (2 + 1) = 3 := w64 (n := 2 + 1) (by omega) (by omega)
  have r0 : rd [a, b, c] 0 = a := rfl
  have r1 : rd [a, b, c] 1 = b := rfl
  have r2 : rd [a, b, c] 2 = c := rfl
  rw [e1, e2, e3, r0, r1, r2]
  by_cases h : a = 0
  · rw [if_pos h, if_pos h]
    by_cases h2 : b = 0
    · by_cases h3 : c = 0
      · simp [h2, h3]
      · simp [h2, h3]
    · simp [h2]
  · rw [if_neg h, if_neg h]
/-- The rank of a kind. -/
def rk (c : Int) : Int := if c = 1 then 0 else if c = 0 then 1 else 2
theorem rank_valid {c M : Int} {l : List Int} {K : Int} (h : condB c M l K = true) : rank.f c = some (rk c) ∧ (c = 0 ∨ c = 1 ∨ c = 2) := by
  simp only [condB, Bool.and_eq_true, Bool.or_eq_true, decide_eq_true_eq] at h
  rcases h.2 with ⟨h0 | h0, _⟩ | ⟨h0, _⟩ <;> subst h0 <;> exact ⟨rfl, by omega⟩
def cmpV (c1 M1 : Int) (l1 : List Int) (K1 c2 M2 : Int) (l2 : List Int) (K2 : Int) : Int :=
  if cm (rk c1) (rk c2) = 0 then (if cm M1 M2 = 0 then (if ord l1 l2 = 0 then cm K1 K2 else ord l1 l2) else cm M1 M2) else cm (rk c1) (rk c2)
def cmpQ (c1 M1 : Int) (l1 : List Int) (K1 c2 M2 : Int) (l2 : List Int) (K2 : Int) : Int × Int :=
  if condB c1 M1 l1 K1 = true ∧ condB c2 M2 l2 K2 = true then (if l2.length = l1.length then (cmpV c1 M1 l1 K1 c2 M2 l2 K2, 0) else (0, 2)) else (0, 1)
theorem lincmp (l m : List Int) (a b : Int) (h1 : valB l a = true) (h2 : valB m b = true) (k : Nat) (hk : 60 ≤ k) : lin_Compare.f k l a m b = some (if m.length = l.length then (if ord l m = 0 then cm a b else ord l m, 0) else (0, 2)) := by
  have hM : maxLen = 9223372036854775807 := by decide
  have hl : l.length ≤ 12 := ((valB_iff l a).1 h1).2.1
  have hm : m.length ≤ 12 := ((valB_iff m b).1 h2).2.1
  unfold lin_Compare.f
  rw [valid_aa a (by omega) (by omega), valid_aa b (by omega) (by omega)]
  obtain ⟨k, rfl⟩ : ∃ m, k = m + 1 := ⟨k - 1, by omega⟩
  simp only [Option.bind_some, lin_Compare.j0, cmp_int]
  by_cases h3 : m.length = l.length
  · have e := slices_l0 l m (by omega) h3 l.length k 0 (by omega) (by omega) (by omega)
    rw [List.drop_zero, List.drop_zero] at e
    have e' : slices_Compare_int_int.f k l m = some (ord l m) := e
    have h4 : (l.length : Int) = (m.length : Int) := by omega
    simp only [h1, h2, h3, e', Bool.not_true, Bool.false_eq_true, if_false, if_true, Option.bind_some, or_int _ _ k (by omega)]
  · have h4 : ¬ (l.length : Int) = (m.length : Int) := by omega
    simp only [h1, h2, h3, h4, Bool.not_true, Bool.false_eq_true, if_false, if_true]
theorem condB_val {c M : Int} {l : List Int} {K : Int} (h : condB c M l K = true) : valB l K = true := by
  simp only [condB, Bool.and_eq_true] at h
  exact h.1
theorem compare_c (c1 M1 : Int) (l1 : List Int) (K1 c2 M2 : Int) (l2 : List Int) (K2 : Int) (hl : l1.length ≤ maxLen) (hm : l2.length ≤ maxLen) (k : Nat) (hk : 80 + (l1.length + l2.length) ≤ k) :
    cond_Compare.f k c1 M1 l1 K1 c2 M2 l2 K2 = some (cmpQ c1 M1 l1 K1 c2 M2 l2 K2) := by
  obtain ⟨k, rfl⟩ : ∃ m, k = m + 1 := ⟨k - 1, by omega⟩
  unfold cond_Compare.f cmpQ
  rw [cvalid c1 M1 K1 hl (by omega), cvalid c2 M2 K2 hm (by omega)]
  simp only [Option.bind_some, cond_Compare.j0, cmp_int]
  by_cases h1 : condB c1 M1 l1 K1 = true
  · by_cases h2 : condB c2 M2 l2 K2 = true
    · rw [lincmp l1 l2 K1 K2 (condB_val h1) (condB_val h2) k (by omega), (rank_valid h1).1, (rank_valid h2).1]
      by_cases h3 : l2.length = l1.length
      · simp only [h1, h2, h3, Bool.not_true, Bool.false_eq_true, if_false, if_true, and_self, Option.bind_some, or3_int _ _ _ k (by omega), cmpV]
      · simp [h1, h2, h3]
    · simp only [Bool.not_eq_true] at h2
      simp [h1, h2]
  · simp only [Bool.not_eq_true] at h1
    simp [h1]
theorem oths_len (c M : Int) (l : List Int) (K : Int) (hc : c = 0 ∨ c = 1 ∨ (c = 2 ∧ 1 ≤ M ∧ M ≤ 512)) : (oths c M l K).length ≤ 1000 := by
  unfold oths
  rcases hc with rfl | rfl | ⟨rfl, h1, h2⟩
  · rw [if_pos (show (0 : Int) = 0 from rfl)]; simp
  · rw [if_neg (show ¬ (1 : Int) = 0 by decide), if_pos (show (1 : Int) = 1 from rfl)]; simp
  · rw [if_neg (show ¬ (2 : Int) = 0 by decide), if_neg (show ¬ (2 : Int) = 1 by decide)]; simp; omega
theorem neg_ev (c M : Int) (l : List Int) (K : Int) (hm : l.length ≤ maxLen) : ∃ xs f, xs.length ≤ 1000 ∧ (f = 0 → negL l.length [] (oths c M l K) = (xs, 0)) ∧ ∃ k0, ∀ k, k0 ≤ k → Gn.cond_Negate.f k c M l K = some (xs, f) := by
  by_cases hv : condB c M l K = true
  · have hv' := hv
    simp only [condB, Bool.and_eq_true, Bool.or_eq_true, decide_eq_true_eq] at hv'
    obtain ⟨hv1, hv2⟩ := hv'
    obtain ⟨hf, h12, hK1, hK2⟩ := (valB_iff l K).1 hv1
    have hc : c = 0 ∨ c = 1 ∨ (c = 2 ∧ 1 ≤ M ∧ M ≤ 512) := by omega
    have hlen := oths_len c M l K hc
    obtain ⟨k0, h⟩ := neg_l0 h12 c M K l rfl (oths c M l K) hlen (ok_oths c M l K hf ⟨hK1, hK2⟩ hc) (oths c M l K).length 0 [] (by omega) (by simp)
    rw [List.drop_zero, Int.natCast_zero] at h
    have hle := negL_len l.length (oths c M l K) []
    refine ⟨(negL l.length [] (oths c M l K)).1, (negL l.length [] (oths c M l K)).2, by simp only [List.length_nil] at hle; omega, fun h => by rw [← h], k0 + 60, fun k hk => ?_⟩
    unfold Gn.cond_Negate.f
    rw [cvalid c M K hm (by omega), Option.bind_some, if_pos hv, oths_f c M l K h12 hc k (by omega), Option.bind_some]
    exact h k (by omega)
  · refine ⟨[], 1, by simp, fun h => by omega, l.length + 60, fun k hk => ?_⟩
    unfold Gn.cond_Negate.f
    rw [cvalid c M K hm (by omega), Option.bind_some, if_neg hv]
theorem mix_l0 (K M K' : Int) (l : List Int) (hw : ∀ n ∈ l, (Lit.int .i64 n).wf = true) (hm : l.length ≤ maxLen) : ∀ (d k i : Nat), i ≤ l.length → l.length - i = d → d < k →
    Mx.headlandref02_Mix.l0 k 1 0 (l.length : Int) (i : Int) l K l M (l.take i ++ List.replicate (l.length - i) 0) K' = some (l, K') := by
  have hM : maxLen = 9223372036854775807 := by decide
  intro d
  induction d with
  | zero =>
    intro k i h0 hd hk
    obtain ⟨k, rfl⟩ : ∃ m, k = m + 1 := ⟨k - 1, by omega⟩
    simp only [Mx.headlandref02_Mix.l0]
    rw [if_neg (by omega), fill_end l i (by omega)]
  | succ d ih =>
    intro k i h0 hd hk
    obtain ⟨k, rfl⟩ : ∃ m, k = m + 1 := ⟨k - 1, by omega⟩
    have hlt : i < l.length := by omega
    have hb := wfb (hw l[i] (List.getElem_mem hlt))
    have hTi : wrap64 (wrap64 (1 * l[i]) + wrap64 (0 * l[i])) = l[i] := by
      rw [Int.one_mul, Int.zero_mul, w64 hb.1 hb.2, w64 (n := 0) (by omega) (by omega), Int.add_zero, w64 hb.1 hb.2]
    simp only [Mx.headlandref02_Mix.l0]
    rw [fill_len l i (by omega), if_pos (by omega), if_pos (by omega), if_pos (by omega), if_pos (by omega), if_pos (by omega), rd_nat l i hlt, w64 (n := (i : Int) + 1) (by omega) (by omega), Int.toNat_natCast, fill_set l i (by omega) _ hTi]
    have := ih k (i + 1) (by omega) (by omega) (by omega)
    rw [Int.natCast_succ] at this
    exact this
theorem mix_id (K : Int) (l : List Int) (hw : ∀ n ∈ l, (Lit.int .i64 n).wf = true) (hK : (Lit.int .i64 K).wf = true) (hm : l.length ≤ 35184372088832) (k : Nat) (hk : l.length < k) : Mx.headlandref02_Mix.f k 1 l K 0 l K = some (l, K) := by
  have hM : maxLen = 9223372036854775807 := by decide
  have hb := wfb hK
  unfold Mx.headlandref02_Mix.f
  rw [if_pos (by omega), if_pos (by omega), Int.toNat_natCast]
  have := mix_l0 K K (wrap64 (wrap64 (1 * K) + wrap64 (0 * K))) l hw (by omega) l.length k 0 (by omega) (by omega) (by omega)
  rw [List.take_zero, List.nil_append, Nat.sub_zero] at this
  refine Eq.trans this ?_
  rw [Int.one_mul, Int.zero_mul, w64 hb.1 hb.2, w64 (n := 0) (by omega) (by omega), Int.add_zero, w64 hb.1 hb.2]
theorem walkOwn (c0 m0 : Int) (a0 : Option Addr) (len0 cap0 : Nat) (z0 : List Int) (b0 : Int) (w : World) (v0 : (Lit.int .i64 c0).wf = true) (u0 : (Lit.int .i64 m0).wf = true)
    (w0 : (a0 = none ∧ len0 = 0 ∧ cap0 = 0 ∧ z0 = []) ∨ ∃ x, a0 = some x ∧ len0 ≤ cap0 ∧ cap0 ≤ maxLen ∧ z0.length = cap0 ∧ (∀ i, i < z0.length → w.cell? (x.add i) = some (.int .i64 (z0.getD i 0))) ∧ ∀ n ∈ z0, (Lit.int .i64 n).wf = true) (x0 : (Lit.int .i64 b0).wf = true) (y0 : len0 * 8 ≤ 140737488351232) :
    Calls Try.prog 9 #[.agg #[.int .i64 c0, .int .i64 m0, .slice a0 len0 cap0, .int .i64 b0]] w fun e w' => e = .returned (.bool true) ∧ Below w.heap.size w w' := by
  have hM : maxLen = 9223372036854775807 := by decide
  obtain ⟨l0, rfl, hr0, hm0, hw0, hc0⟩ := ReadsInt.ofRowC w0
  have C0 := Kd.C_of_reads (d := (0 : Int)) (h1 := fun _ => rfl) hr0
  obtain ⟨xs, f, hx, _, k0, hN⟩ := neg_ev c0 m0 l0 b0 hm0
  obtain ⟨⟨r1, r2, r3, r4, r5, r6⟩, k1, hNo⟩ := norm_any c0 m0 l0 b0 hm0
  have haw : Nr.headlandlaw03_awake.f (80 + (20 + (k0 + k1 + l0.length + l0.length))) = some true := Nr.headlandlaw03_awake.ge _
  refine Oc.own_walk (80 + (20 + (k0 + k1 + l0.length + l0.length))) c0 m0 a0 cap0 l0 b0 w C0 hc0 haw (same_refl c0 m0 b0 hm0 (by omega)) (mix_id b0 l0 hw0 x0 (by omega) _ (by omega)) ⟨_, cvalid c0 m0 b0 hm0 (by omega)⟩ ?_ ⟨_, _, compare_c c0 m0 l0 b0 c0 m0 l0 b0 hm0 hm0 _ (by omega)⟩ ⟨r1, r2, r3, r4, r5, r6, hNo _ (by omega)⟩ ⟨xs, f, hN _ (by omega), hx⟩
  obtain ⟨r, h1, _⟩ := holds_both c0 m0 l0 b0 (List.replicate (min l0.length 100) 0) hm0 (80 + (20 + (k0 + k1 + l0.length + l0.length))) (by omega)
  exact ⟨r.1, r.2, h1⟩
end Go.Proofs.Ytcakhbhjdpplcaa.Lp
