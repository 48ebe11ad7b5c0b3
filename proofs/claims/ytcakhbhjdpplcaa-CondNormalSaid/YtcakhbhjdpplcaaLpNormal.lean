/- The plain law behind CondNormal, and the walk in the form that the row asks for. -/
import Derived.Test.YtcakhbhjdpplcaaLpN
import Derived.Test.YtcakhbhjdpplcaaNr
namespace Go.Proofs.Ytcakhbhjdpplcaa.Lp
open Go.RowKit Go.Proofs.Ytcakhbhjdpplcaa.Aa Go.Proofs.Ytcakhbhjdpplcaa.Man Go.Proofs.Ytcakhbhjdpplcaa.Nr Go.Proofs.YtcakhbhjdpplcaaW.PrintWords Go.Proofs.YtcakhbhjdpplcaaW.PrintLast
set_option linter.unusedVariables false
set_option linter.unusedSimpArgs false
theorem same_l0 (l : List Int) (a b : Int) (hm : l.length ≤ maxLen) : ∀ (d k i : Nat), i ≤ l.length → l.length - i = d → d < k →
    headlandref02_Same.l0 k (l.length : Int) (i : Int) l a l b = some true := by
  have hM : maxLen = 9223372036854775807 := by decide
  intro d
  induction d with
  | zero =>
    intro k i h0 hd hk
    obtain ⟨k, rfl⟩ : ∃ m, k = m + 1 := ⟨k - 1, by omega⟩
    simp only [headlandref02_Same.l0]
    rw [if_neg (by omega)]
  | succ d ih =>
    intro k i h0 hd hk
    obtain ⟨k, rfl⟩ : ∃ m, k = m + 1 := ⟨k - 1, by omega⟩
    simp only [headlandref02_Same.l0]
    rw [if_pos (by omega), if_pos (by omega), if_pos (by omega), if_pos (by omega), if_pos trivial, w64 (by omega) (by omega)]
    exact ih k (i + 1) (by omega) (by omega) (by omega)
theorem same_refl {l : List Int} (c m a : Int) (hm : l.length ≤ maxLen) {k : Nat} (hk : l.length + 1 < k) : headlandref03_Same.f k c m l a c m l a = some true := by
  obtain ⟨k, rfl⟩ : ∃ m, k = m + 1 := ⟨k - 1, by omega⟩
  unfold headlandref03_Same.f headlandref02_Same.f
  rw [if_pos rfl, if_pos rfl, if_pos rfl]
  simp only [headlandref02_Same.j0, bne_self_eq_false, Bool.false_eq_true, if_false]
  have e := same_l0 l a a hm l.length k 0 (by omega) (by omega) (by omega)
  rw [Int.natCast_zero] at e
  rw [e]
  rfl
/-- What the makers answer for a valid condition: a valid condition where the state is 0. -/
def Fine (r : Int × Int × List Int × Int × Int) : Prop := r.2.2.1.length ≤ 12 ∧ (r.2.2.2.2 = 0 → condB r.1 r.2.1 r.2.2.1 r.2.2.2.1 = true)
theorem quo_len (l : List Int) (g : Int) : (quo l g).length = l.length := by simp [quo]
theorem fine_ge {l : List Int} {K : Int} (h12 : l.length ≤ 12) (hf : ∀ x ∈ l, -1048576 ≤ x ∧ x ≤ 1048576) (hK : -1048576 ≤ K ∧ K ≤ 1048576) : Fine (outGe l K) := by
  unfold outGe
  by_cases c : gfold 0 l = 0
  · rw [if_pos c]
    refine ⟨by simp, fun h => ?_⟩
    simp only at h
    split at h <;> omega
  · rw [if_neg c]
    refine ⟨by simp [quo_len, h12], fun _ => ?_⟩
    have h1 := quo_fit l (gfold 0 l : Nat) hf
    have h2 := flo_bd K (gfold 0 l : Nat) (by omega) hK
    have : valB (quo l (gfold 0 l : Nat)) (flo K (gfold 0 l : Nat)) = true := (valB_iff _ _).2 ⟨h1, by rw [quo_len]; exact h12, h2.1, h2.2⟩
    simp [condB, this]
theorem fine_eq {l : List Int} {K : Int} (h12 : l.length ≤ 12) (hf : ∀ x ∈ l, -1048576 ≤ x ∧ x ≤ 1048576) (hK : -1048576 ≤ K ∧ K ≤ 1048576) : Fine (outEq l K) := by
  unfold outEq
  by_cases c : gfold 0 l = 0
  · rw [if_pos c]
    refine ⟨by simp, fun h => ?_⟩
    simp only at h
    split at h <;> omega
  · rw [if_neg c]
    split
    · refine ⟨by simp [quo_len, h12], fun _ => ?_⟩
      have h1 := quo_fit l (sgn (gfold 0 l : Nat) l) hf
      have h2 := tdiv_bd K (sgn (gfold 0 l : Nat) l)
      have h3 : -1048576 ≤ wrap64 (Int.tdiv K (sgn (gfold 0 l : Nat) l)) ∧ wrap64 (Int.tdiv K (sgn (gfold 0 l : Nat) l)) ≤ 1048576 := by rw [w64 (by omega) (by omega)]; omega
      have : valB (quo l (sgn (gfold 0 l : Nat) l)) (wrap64 (Int.tdiv K (sgn (gfold 0 l : Nat) l))) = true := (valB_iff _ _).2 ⟨h1, by rw [quo_len]; exact h12, h3.1, h3.2⟩
      simp [condB, this]
    · exact ⟨by simp, fun h => by simp at h⟩
theorem fine_div {l : List Int} {K M : Int} (h12 : l.length ≤ 12) (hM1 : 1 ≤ M) (hM2 : M ≤ 512) : Fine (fin (mods l M) K M (gfold M.natAbs (mods l M) : Nat)) := by
  have hp := gfold_pos (mods l M) M.natAbs (by omega)
  have hl := gfold_le (mods l M) M.natAbs (by omega)
  have hdv : gfold M.natAbs (mods l M) ∣ M.natAbs := by rw [gfold_gcd]; exact Nat.gcd_dvd_left _ _
  have hml : (mods l M).length = l.length := by simp [mods]
  unfold fin
  split
  · split
    · exact ⟨by simp, fun h => by simp at h⟩
    · refine ⟨by simp [quo_len, hml, h12], fun _ => ?_⟩
      generalize hg : gfold M.natAbs (mods l M) = g at *
      have hmf : ∀ x ∈ mods l M, -1048576 ≤ x ∧ x ≤ 1048576 := by
        intro x hx
        obtain ⟨n, _, rfl⟩ := List.mem_map.1 hx
        have := modv_bd n M hM1 hM2
        omega
      have h1 := quo_fit (mods l M) (g : Nat) hmf
      have h2 := tdiv_bd (modv K M) (g : Nat)
      have h3 := modv_bd K M hM1 hM2
      have h4 : -1048576 ≤ wrap64 (Int.tdiv (modv K M) (g : Nat)) ∧ wrap64 (Int.tdiv (modv K M) (g : Nat)) ≤ 1048576 := by rw [w64 (by omega) (by omega)]; omega
      have : valB (quo (mods l M) (g : Nat)) (wrap64 (Int.tdiv (modv K M) (g : Nat))) = true := (valB_iff _ _).2 ⟨h1, by rw [quo_len, hml]; exact h12, h4.1, h4.2⟩
      have h5 := tdiv_bd M (g : Nat)
      have h6 : 1 ≤ Int.tdiv M (g : Nat) := by
        have e : Int.tdiv M (g : Nat) = ((M.natAbs / g : Nat) : Int) := by
          obtain ⟨m, rfl⟩ : ∃ m : Nat, M = m := ⟨M.natAbs, by omega⟩
          rw [← Int.ofNat_tdiv]
          simp
        have : 0 < M.natAbs / g := Nat.div_pos hl (by omega)
        omega
      have h7 : 1 ≤ wrap64 (Int.tdiv M (g : Nat)) ∧ wrap64 (Int.tdiv M (g : Nat)) ≤ 512 := by rw [w64 (by omega) (by omega)]; omega
      simp [condB, this, h7]
  · exact ⟨by simp, fun h => by simp at h⟩
/-- Raw and Made, for a valid condition. -/
theorem raw_ev (c M : Int) (l : List Int) (K : Int) (hv : condB c M l K = true) : ∃ r : Int × Int × List Int × Int × Int, Fine r ∧ ∃ k0, ∀ k, k0 ≤ k → cond_Raw.f k c M l K = some r ∧ headlandref03_Made.f k c M l K = some r := by
  simp only [condB, Bool.and_eq_true, Bool.or_eq_true, decide_eq_true_eq] at hv
  obtain ⟨hv1, hv2⟩ := hv
  obtain ⟨hf, h12, hK1, hK2⟩ := (valB_iff l K).1 hv1
  rcases hv2 with ⟨h0 | h0, rfl⟩ | ⟨rfl, hM1, hM2⟩
  · subst h0
    obtain ⟨k0, h⟩ := ge_ev h12 hf ⟨hK1, hK2⟩ 0
    exact ⟨_, fine_ge h12 hf ⟨hK1, hK2⟩, k0, fun k hk => ⟨by unfold cond_Raw.f; rw [if_pos rfl]; exact (h k hk).1, (h k hk).2⟩⟩
  · subst h0
    obtain ⟨k0, h⟩ := eq_ev h12 hf ⟨hK1, hK2⟩ 0
    exact ⟨_, fine_eq h12 hf ⟨hK1, hK2⟩, k0, fun k hk => ⟨by unfold cond_Raw.f; rw [if_neg (by decide), if_pos rfl]; exact (h k hk).1, (h k hk).2⟩⟩
  · obtain ⟨k0, h⟩ := div_ev h12 hf ⟨hK1, hK2⟩ M hM1 hM2
    exact ⟨_, fine_div h12 hM1 hM2, k0, fun k hk => ⟨by unfold cond_Raw.f; rw [if_neg (by decide), if_neg (by decide), if_pos rfl]; exact (h k hk).1, (h k hk).2⟩⟩
/-- Normal on both sides. -/
theorem normal_ev (c M : Int) (l : List Int) (K : Int) (hm : l.length ≤ maxLen) : ∃ r : Int × Int × List Int × Int × Int × Int, r.2.2.1.length ≤ 12 ∧ ∃ k0, ∀ k, k0 ≤ k → cond_Normal.f k c M l K = some r ∧ headlandref03_Normal.f k c M l K = some r := by
  have hM : maxLen = 9223372036854775807 := by decide
  by_cases hv : condB c M l K = true
  · obtain ⟨r, ⟨hr1, hr2⟩, k0, h⟩ := raw_ev c M l K hv
    refine ⟨(r.1, r.2.1, r.2.2.1, r.2.2.2.1, r.2.2.2.2, 0), hr1, k0 + l.length + 60, fun k hk => ?_⟩
    unfold cond_Normal.f headlandref03_Normal.f cond_Make.f
    rw [cvalid c M K hm (by omega), rvalid c M K hm (by omega), (h k (by omega)).1, (h k (by omega)).2]
    simp only [Option.bind_some, hv, if_true]
    rw [cvalid _ _ _ (by omega) (by omega)]
    simp only [Option.bind_some]
    by_cases hs : r.2.2.2.2 = 0
    · simp [hs, hr2 hs]
    · simp [hs]
  · refine ⟨(0, 0, [], 0, 0, 1), by simp, l.length + 60, fun k hk => ?_⟩
    unfold cond_Normal.f headlandref03_Normal.f
    rw [cvalid c M K hm (by omega), rvalid c M K hm (by omega)]
    simp only [Option.bind_some, hv]
    exact ⟨rfl, rfl⟩
theorem CondNormal (c M : Int) (l : List Int) (K : Int) (hm : l.length ≤ maxLen) : ∃ k, headlandlaw03_CondNormal.f k c M l K = some true := by
  have hM : maxLen = 9223372036854775807 := by decide
  obtain ⟨r, hr, k0, h⟩ := normal_ev c M l K hm
  refine ⟨80 + k0, ?_⟩
  unfold headlandlaw03_CondNormal.f
  rw [(h _ (by omega)).1, (h _ (by omega)).2]
  simp only [Option.bind_some, if_true]
  rw [same_refl _ _ _ (by omega) (by omega), headlandlaw03_awake.ge]
  simp
theorem walkNormal (c0 m0 : Int) (a0 : Option Addr) (len0 cap0 : Nat) (z0 : List Int) (b0 : Int) (w : World) (v0 : (Lit.int .i64 c0).wf = true) (u0 : (Lit.int .i64 m0).wf = true)
    (w0 : (a0 = none ∧ len0 = 0 ∧ cap0 = 0 ∧ z0 = []) ∨ ∃ x, a0 = some x ∧ len0 ≤ cap0 ∧ cap0 ≤ maxLen ∧ z0.length = cap0 ∧ (∀ i, i < z0.length → w.cell? (x.add i) = some (.int .i64 (z0.getD i 0))) ∧ ∀ n ∈ z0, (Lit.int .i64 n).wf = true) (x0 : (Lit.int .i64 b0).wf = true) :
    Calls Try.prog 3 #[.agg #[.int .i64 c0, .int .i64 m0, .slice a0 len0 cap0, .int .i64 b0]] w fun e w' => e = .returned (.bool true) ∧ Below w.heap.size w w' := by
  obtain ⟨l0, rfl, hr0, hm0, hw0, hc0⟩ := ReadsInt.ofRowC w0
  obtain ⟨k, h⟩ := CondNormal c0 m0 l0 b0 hm0
  exact headlandlaw03_CondNormal.calls k c0 m0 a0 cap0 l0 b0 true w (Kd.C_of_reads (d := (0 : Int)) (h1 := fun _ => rfl) hr0) hc0 h
end Go.Proofs.Ytcakhbhjdpplcaa.Lp
