/- The law behind CondNegates, and the walk in the form that the row asks for. -/
import Derived.Test.YtcakhbhjdpplcaaLpYn
import Derived.Test.YtcakhbhjdpplcaaRn
namespace Go.Proofs.Ytcakhbhjdpplcaa.Lp
open Go.RowKit Go.Proofs.Ytcakhbhjdpplcaa.Aa Go.Proofs.Ytcakhbhjdpplcaa.Nr Go.Proofs.YtcakhbhjdpplcaaW.PrintWords Go.Proofs.YtcakhbhjdpplcaaW.PrintLast Go.Proofs.Ytcakhbhjdpplcaa.Kc
set_option linter.unusedVariables false
set_option linter.unusedSimpArgs false
theorem oths_len (c M : Int) (l : List Int) (K : Int) (hc : c = 0 ∨ c = 1 ∨ (c = 2 ∧ 1 ≤ M ∧ M ≤ 512)) : (oths c M l K).length ≤ 1000 := by
  unfold oths
  rcases hc with rfl | rfl | ⟨rfl, h1, h2⟩
  · rw [if_pos (show (0 : Int) = 0 from rfl)]; simp
  · rw [if_neg (show ¬ (1 : Int) = 0 by decide), if_pos (show (1 : Int) = 1 from rfl)]; simp
  · rw [if_neg (show ¬ (2 : Int) = 0 by decide), if_neg (show ¬ (2 : Int) = 1 by decide)]; simp; omega
/-- The mixed coefficients. -/
def mx (a b : Int) (l : List Int) : List Int := l.map fun n => wrap64 (wrap64 (a * n) + wrap64 (b * 0))
theorem mix_l0 (a b K M K' : Int) (l zs T : List Int) (h12 : l.length ≤ 12) (hz : zs = List.replicate l.length 0) (hT : T = mx a b l) : ∀ (d k i : Nat), i ≤ l.length → l.length - i = d → d < k →
    Mx.headlandref02_Mix.l0 k a b (l.length : Int) (i : Int) l K zs M (T.take i ++ List.replicate (T.length - i) 0) K' = some (T, K') := by
  have hTl : T.length = l.length := by rw [hT]; simp [mx]
  have hzl : zs.length = l.length := by rw [hz]; simp
  intro d
  induction d with
  | zero =>
    intro k i h0 hd hk
    obtain ⟨k, rfl⟩ : ∃ m, k = m + 1 := ⟨k - 1, by omega⟩
    simp only [Mx.headlandref02_Mix.l0]
    rw [if_neg (by omega), fill_end T i (by omega)]
  | succ d ih =>
    intro k i h0 hd hk
    obtain ⟨k, rfl⟩ : ∃ m, k = m + 1 := ⟨k - 1, by omega⟩
    have hlt : i < l.length := by omega
    have hz0 : zs[i]'(by omega) = 0 := by subst hz; simp
    have hTi : wrap64 (wrap64 (a * l[i]) + wrap64 (b * 0)) = T[i]'(by omega) := by subst hT; simp [mx]
    simp only [Mx.headlandref02_Mix.l0]
    rw [fill_len T i (by omega), if_pos (by omega), if_pos (by omega), if_pos (by omega), if_pos (by omega), if_pos (by omega), rd_nat l i hlt, rd_nat zs i (by omega), hz0, w64 (n := (i : Int) + 1) (by omega) (by omega), Int.toNat_natCast, fill_set T i (by omega) _ hTi]
    have := ih k (i + 1) (by omega) (by omega) (by omega)
    rw [Int.natCast_succ] at this
    exact this
theorem mix_f (a b K : Int) (l : List Int) (h12 : l.length ≤ 12) (k : Nat) (hk : 20 ≤ k) : Mx.headlandref02_Mix.f k a l K b (List.replicate l.length 0) 1 = some (mx a b l, wrap64 (wrap64 (a * K) + wrap64 (b * 1))) := by
  unfold Mx.headlandref02_Mix.f
  rw [if_pos (by omega), if_pos (by omega), Int.toNat_natCast]
  have := mix_l0 a b K 1 (wrap64 (wrap64 (a * K) + wrap64 (b * 1))) l _ (mx a b l) h12 rfl rfl l.length k 0 (by omega) (by omega) (by omega)
  rw [List.take_zero, List.nil_append, Nat.sub_zero, show (mx a b l).length = l.length by simp [mx]] at this
  exact this
theorem mx_one (b : Int) (l : List Int) (hf : ∀ c ∈ l, -1048576 ≤ c ∧ c ≤ 1048576) : mx 1 b l = l := by
  unfold mx
  conv => rhs; rw [← List.map_id l]
  refine List.map_congr_left fun n hn => ?_
  have := hf n hn
  rw [Int.mul_zero, Int.one_mul, w64 (n := n) (by omega) (by omega), w64 (n := 0) (by omega) (by omega), Int.add_zero, w64 (by omega) (by omega)]
  rfl
theorem mx_neg (b : Int) (l : List Int) (hf : ∀ c ∈ l, -1048576 ≤ c ∧ c ≤ 1048576) : mx (-1) b l = negs l := by
  unfold mx negs
  refine List.map_congr_left fun n hn => ?_
  have := hf n hn
  rw [Int.mul_zero, Int.neg_mul, Int.one_mul, w64 (n := -n) (by omega) (by omega), w64 (n := 0) (by omega) (by omega), Int.add_zero, w64 (by omega) (by omega)]
theorem all_ev {P : Nat → S26 → Prop} : ∀ ls : List S26, (∀ o ∈ ls, ∃ k0, ∀ k, k0 ≤ k → P k o) → ∃ k0, ∀ k, k0 ≤ k → ∀ o ∈ ls, P k o
  | [], _ => ⟨0, fun k _ o h => absurd h List.not_mem_nil⟩
  | a :: ls, h => by
    obtain ⟨k1, e1⟩ := h a List.mem_cons_self
    obtain ⟨k2, e2⟩ := all_ev ls (fun o ho => h o (List.mem_cons_of_mem _ ho))
    refine ⟨k1 + k2, fun k hk o ho => ?_⟩
    rcases List.mem_cons.1 ho with rfl | ho
    · exact e1 k (by omega)
    · exact e2 k (by omega) o ho
theorem negL_fail (n : Nat) : ∀ ys acc, (negL n acc ys).2 = 0 ∨ (negL n acc ys).1 = []
  | [], acc => by
    unfold negL
    split
    · exact .inr rfl
    · exact .inl rfl
  | o :: ys, acc => by
    unfold negL
    split
    · split
      · exact negL_fail n ys _
      · exact .inr rfl
    · split
      · exact negL_fail n ys _
      · exact negL_fail n ys _
theorem ls_oths (c M : Int) (l : List Int) (K : Int) (h12 : l.length ≤ 12) (hf : ∀ c ∈ l, -1048576 ≤ c ∧ c ≤ 1048576) (hK : -1048576 ≤ K ∧ K ≤ 1048576) (hc : c = 0 ∨ c = 1 ∨ (c = 2 ∧ 1 ≤ M ∧ M ≤ 512)) (k : Nat) (hk : 20 ≤ k) : Rn.Ls k c M l K (oths c M l K) := by
  have e1 : wrap64 (wrap64 (-1 * K) + wrap64 (-1 * 1)) = wrap64 (-1 - K) := by
    rw [w64 (n := -1 * K) (by omega) (by omega), w64 (n := -1 * 1) (by omega) (by omega)]
    congr 1
    omega
  have e2 : ∀ b : Int, -1000 ≤ b → b ≤ 0 → wrap64 (wrap64 (1 * K) + wrap64 (b * 1)) = wrap64 (K - (-b)) := by
    intro b h1 h2
    rw [w64 (n := 1 * K) (by omega) (by omega), w64 (n := b * 1) (by omega) (by omega)]
    congr 1
    omega
  unfold Rn.Ls oths
  rcases hc with rfl | rfl | ⟨rfl, h1, h2⟩
  · refine .inl ⟨rfl, _, _, mix_f (-1) (-1) K l h12 k hk, ?_⟩
    rw [if_pos (show (0 : Int) = 0 from rfl), mx_neg _ l hf, e1]
  · refine .inr (.inl ⟨rfl, _, _, _, _, mix_f 1 (-1) K l h12 k hk, mix_f (-1) (-1) K l h12 k hk, ?_⟩)
    rw [if_neg (show ¬ (1 : Int) = 0 by decide), if_pos (show (1 : Int) = 1 from rfl), mx_neg _ l hf, e1, mx_one _ l hf, e2 (-1) (by omega) (by omega)]
    rfl
  · rw [if_neg (show ¬ (2 : Int) = 0 by decide), if_neg (show ¬ (2 : Int) = 1 by decide)]
    refine .inr (.inr ⟨rfl, by omega, by simp, fun r x hx => ?_⟩)
    rw [List.getElem?_map, Option.map_eq_some_iff] at hx
    obtain ⟨p, hp, rfl⟩ := hx
    obtain ⟨hpl, hpe⟩ := List.getElem?_eq_some_iff.1 hp
    simp at hpl hpe
    subst hpe
    refine ⟨?_, rfl, rfl⟩
    have hw : wrap64 (-((r : Int) + 1)) = -((r : Int) + 1) := w64 (by omega) (by omega)
    rw [hw]
    refine (mix_f 1 (-((r : Int) + 1)) K l h12 k hk).trans ?_
    rw [mx_one _ l hf, e2 _ (by omega) (by omega), Int.neg_neg]
    rfl
theorem walkNegates (c0 m0 : Int) (a0 : Option Addr) (len0 cap0 : Nat) (z0 : List Int) (b0 : Int) (w : World) (v0 : (Lit.int .i64 c0).wf = true) (u0 : (Lit.int .i64 m0).wf = true)
    (w0 : (a0 = none ∧ len0 = 0 ∧ cap0 = 0 ∧ z0 = []) ∨ ∃ x, a0 = some x ∧ len0 ≤ cap0 ∧ cap0 ≤ maxLen ∧ z0.length = cap0 ∧ (∀ i, i < z0.length → w.cell? (x.add i) = some (.int .i64 (z0.getD i 0))) ∧ ∀ n ∈ z0, (Lit.int .i64 n).wf = true) (x0 : (Lit.int .i64 b0).wf = true) :
    Calls Try.prog 6 #[.agg #[.int .i64 c0, .int .i64 m0, .slice a0 len0 cap0, .int .i64 b0]] w fun e w' => e = .returned (.bool true) ∧ Below w.heap.size w w' := by
  have hM : maxLen = 9223372036854775807 := by decide
  obtain ⟨l0, rfl, hr0, hm0, hw0, hc0⟩ := ReadsInt.ofRowC w0
  have C0 := Kd.C_of_reads (d := (0 : Int)) (h1 := fun _ => rfl) hr0
  by_cases hv : condB c0 m0 l0 b0 = true
  · have hv' := hv
    simp only [condB, Bool.and_eq_true, Bool.or_eq_true, decide_eq_true_eq] at hv'
    obtain ⟨hv1, hv2⟩ := hv'
    obtain ⟨hf, h12, hK1, hK2⟩ := (valB_iff l0 b0).1 hv1
    have hc : c0 = 0 ∨ c0 = 1 ∨ (c0 = 2 ∧ 1 ≤ m0 ∧ m0 ≤ 512) := by omega
    have hlen := oths_len c0 m0 l0 b0 hc
    have hok := ok_oths c0 m0 l0 b0 hf ⟨hK1, hK2⟩ hc
    obtain ⟨k0, h⟩ := neg_l0 h12 c0 m0 b0 l0 rfl (oths c0 m0 l0 b0) hlen hok (oths c0 m0 l0 b0).length 0 [] (by omega) (by simp)
    rw [List.drop_zero, Int.natCast_zero] at h
    obtain ⟨k1, hMade⟩ := all_ev (P := fun k o => headlandref03_Made.f k o.f0 o.f1 o.f2.f0 o.f2.f1 = some (raw o)) (oths c0 m0 l0 b0) (fun o ho => by
      obtain ⟨q1, q2, q3, q4⟩ := hok o ho
      obtain ⟨k2, e⟩ := both_ev o.f0 o.f1 o.f2.f0 o.f2.f1 (by omega) q2 q3 (by omega)
      exact ⟨k2, fun k hk => (e k hk).2⟩)
    have hle := negL_len l0.length (oths c0 m0 l0 b0) []
    obtain ⟨xs, f, hxf⟩ : ∃ xs f, negL l0.length [] (oths c0 m0 l0 b0) = (xs, f) := ⟨_, _, rfl⟩
    rw [hxf] at hle
    have hx : xs.length ≤ 1000 := by simp only [List.length_nil] at hle; omega
    have hxl : ∀ x ∈ xs, x.f2.f0.length = l0.length := by
      intro x hxm
      rcases negL_fail l0.length (oths c0 m0 l0 b0) [] with hz | hz
      · rw [hxf] at hz
        simp only at hz
        subst hz
        exact ((negL_spec h12 [] (oths c0 m0 l0 b0) [] xs hok hxf (fun a h => absurd h List.not_mem_nil)).1 x hxm).2
      · rw [hxf] at hz
        simp only at hz
        rw [hz] at hxm
        exact absurd hxm List.not_mem_nil
    have haw : Nr.headlandlaw03_awake.f (80 + (20 + (k0 + k1 + l0.length))) = some true := Nr.headlandlaw03_awake.ge _
    refine Nw.negates_walk (80 + (20 + (k0 + k1 + l0.length))) c0 m0 a0 cap0 l0 b0 w C0 hc0 f xs ?_ haw (fun W hC => ?_) (fun x hxm => ?_) hx
    · unfold Gn.cond_Negate.f
      rw [cvalid c0 m0 b0 hm0 (by omega), Option.bind_some, if_pos hv, oths_f c0 m0 l0 b0 h12 hc _ (by omega), Option.bind_some]
      rw [← hxf]
      exact h _ (by omega)
    · refine Rn.neg_walk (80 + (20 + (k0 + k1 + l0.length))) c0 m0 a0 cap0 l0 b0 W hC hc0 (by omega) ?_ f (oths c0 m0 l0 b0) xs (ls_oths c0 m0 l0 b0 h12 hf ⟨hK1, hK2⟩ hc _ (by omega)) hlen (fun o ho => hMade _ (by omega) o ho) (fun o ho => ?_) (fun o ho hs => ?_) hxf
      · rw [rvalid c0 m0 b0 hm0 (by omega), hv]
      · rcases good2_ok h12 (hok o ho) [] with ⟨g, _⟩ | ⟨g, _⟩ | ⟨g, _⟩
        · exact .inl g
        · exact .inr (.inr g)
        · exact .inr (.inl g)
      · have hl : (raw o).2.2.1.length = l0.length := by
          rcases good2_ok h12 (hok o ho) [] with ⟨g, _⟩ | ⟨g, _⟩ | ⟨_, g, _⟩
          · omega
          · omega
          · rw [g, (hok o ho).1]
        exact rvalid _ _ _ (by omega) (by omega)
    · exact same_refl _ _ _ (by have := hxl x hxm; omega) (by have := hxl x hxm; omega)
  · have haw : Nr.headlandlaw03_awake.f (80 + (20 + l0.length)) = some true := Nr.headlandlaw03_awake.ge _
    refine Nw.negates_walk (80 + (20 + l0.length)) c0 m0 a0 cap0 l0 b0 w C0 hc0 1 [] ?_ haw (fun W hC => Rn.neg_bad (80 + (20 + l0.length)) c0 m0 a0 cap0 l0 b0 W hC hc0 ?_) (fun x hxm => absurd hxm List.not_mem_nil) (by simp)
    · unfold Gn.cond_Negate.f
      rw [cvalid c0 m0 b0 hm0 (by omega), Option.bind_some, if_neg hv]
    · rw [rvalid c0 m0 b0 hm0 (by omega)]
      congr 1
      exact Bool.eq_false_iff.2 hv
end Go.Proofs.Ytcakhbhjdpplcaa.Lp
