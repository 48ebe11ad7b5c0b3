/- The plain law behind NumDivisors: Gcd divides each number, and every common divisor divides it; no condition. -/
import Derived.Test.YtimjibbjbfmkoaaLw1
namespace Go.Proofs.Ytimjibbjbfmkoaa.NumDivisors
open Go.RowKit Go.Proofs.Ytimjibbjbfmkoaa Go.Proofs.YtimjibbjbfmkoaaW.PrintWords Go.Proofs.YtimjibbjbfmkoaaW.PrintLast
set_option linter.unusedVariables false
set_option linter.unusedSimpArgs false

theorem gfold_dvd (l : List Int) : ∀ g, Man.gfold g l ∣ g ∧ ∀ x ∈ l, Man.gfold g l ∣ x.natAbs := by
  induction l with
  | nil => intro g; exact ⟨Nat.dvd_refl _, fun x hx => by cases hx⟩
  | cons a l ih =>
    intro g
    obtain ⟨h1, h2⟩ := ih (Nat.gcd g a.natAbs)
    refine ⟨Nat.dvd_trans h1 (Nat.gcd_dvd_left _ _), fun x hx => ?_⟩
    rcases List.mem_cons.1 hx with rfl | hx
    · exact Nat.dvd_trans h1 (Nat.gcd_dvd_right _ _)
    · exact h2 x hx
theorem dvd_gfold (c : Nat) (l : List Int) : ∀ g, c ∣ g → (∀ x ∈ l, c ∣ x.natAbs) → c ∣ Man.gfold g l := by
  induction l with
  | nil => intro g h _; exact h
  | cons a l ih => intro g h hl; exact ih _ (Nat.dvd_gcd h (hl a List.mem_cons_self)) (fun x hx => hl x (List.mem_cons_of_mem _ hx))
theorem awake_at (k : Nat) (h : 12 ≤ k) : Ba.headlandlaw01_awake.f k = some true := at_rounds Ba.headlandlaw01_awake.mono h (by decide +kernel)
theorem rd_mem {l : List Int} {i : Nat} (h : i < l.length) : rd l (i : Int) ∈ l := by simp [rd, h]
theorem rd_at {l : List Int} {x : Int} (h : x ∈ l) : ∃ i, i < l.length ∧ rd l ((i : Nat) : Int) = x := by
  obtain ⟨j, hj, rfl⟩ := List.mem_iff_getElem.1 h
  exact ⟨j, hj, by simp [rd, hj]⟩
theorem div_l0 (l : List Int) (x1 g : Int) (hg : 0 ≤ g) (hdiv : ∀ x ∈ l, g ∣ x) (hall : (∀ x ∈ l, x1 ∣ x) → x1 ∣ g) (hl : l.length ≤ 9223372036854775806) (d : Nat) : ∀ (k i : Nat) (b : Bool), i + d = l.length → d + 13 < k →
    (b = true → ∀ j, j < i → x1 ∣ rd l ((j : Nat) : Int)) → Lw.headlandlaw01_NumDivisors.l0 k x1 g b l l.length i = some true := by
  induction d with
  | zero =>
    intro k i b hi hk hb
    obtain ⟨k, rfl⟩ : ∃ m, k = m + 1 := ⟨k - 1, by omega⟩
    simp only [Lw.headlandlaw01_NumDivisors.l0]
    rw [if_neg (by omega), awake_at k (by omega)]
    by_cases c : b = true
    · have hd : x1 ∣ g := hall (fun x hx => by
        obtain ⟨j, hj, rfl⟩ := rd_at hx
        exact hb c j (by omega))
      rw [if_pos c]
      by_cases z : x1 = 0
      · subst z
        rw [if_pos rfl, if_pos (Int.zero_dvd.1 hd), if_pos hg]
        rfl
      · rw [if_neg z, if_pos (Int.tmod_eq_zero_of_dvd hd), if_pos hg]
        rfl
    · rw [if_neg c, if_pos hg]
      rfl
  | succ d ih =>
    intro k i b hi hk hb
    obtain ⟨k, rfl⟩ : ∃ m, k = m + 1 := ⟨k - 1, by omega⟩
    have hin : i < l.length := by omega
    have hm := rd_mem hin
    have hgd := hdiv _ hm
    have next : ∀ b', (b' = true → b = true ∧ x1 ∣ rd l (i : Int)) → Lw.headlandlaw01_NumDivisors.l0 k x1 g b' l l.length (wrap64 ((i : Int) + 1)) = some true := by
      intro b' h'
      rw [Man.w64 (by omega) (by omega)]
      refine ih k (i + 1) b' (by omega) (by omega) (fun c j hj => ?_)
      by_cases e : j = i
      · subst e; exact (h' c).2
      · exact hb (h' c).1 j (by omega)
    simp only [Lw.headlandlaw01_NumDivisors.l0]
    rw [if_pos (by omega), if_pos (by omega), if_pos (by omega)]
    have yes : b = true → ∀ n : Int, n = rd l (i : Int) → Lw.headlandlaw01_NumDivisors.l0 k x1 g (Int.tmod n x1 == 0) l l.length (wrap64 ((i : Int) + 1)) = some true := by
      intro c n hn
      exact next _ (fun h => ⟨c, by rw [← hn]; exact Int.dvd_of_tmod_eq_zero (beq_iff_eq.1 h)⟩)
    by_cases z : g = 0
    · subst z
      have r0 := Int.zero_dvd.1 hgd
      rw [if_pos rfl, if_pos r0]
      by_cases c : b = true
      · rw [if_pos c]
        by_cases z1 : x1 = 0
        · rw [if_pos z1]; exact next _ (fun _ => ⟨c, by rw [r0]; exact Int.dvd_zero _⟩)
        · rw [if_neg z1]; exact yes c _ rfl
      · rw [if_neg c]; exact next _ (fun h => by cases h)
    · rw [if_neg z, if_pos (Int.tmod_eq_zero_of_dvd hgd)]
      by_cases c : b = true
      · rw [if_pos c]
        by_cases z1 : x1 = 0
        · rw [if_pos z1]
          by_cases z2 : rd l (i : Int) = 0
          · rw [if_pos z2]; exact next _ (fun _ => ⟨c, by rw [z2]; exact Int.dvd_zero _⟩)
          · rw [if_neg z2]; exact next _ (fun h => by cases h)
        · rw [if_neg z1]; exact yes c _ rfl
      · rw [if_neg c]; exact next _ (fun h => by cases h)
theorem NumDivisors (l : List Int) (a1 : Int) (hl : l.length ≤ 9223372036854775806) (hw : ∀ x ∈ l, x.natAbs ≤ 9223372036854775808) : ∃ k, Lw.headlandlaw01_NumDivisors.f k l a1 = some true := by
  refine ⟨l.length + 14, ?_⟩
  unfold Lw.headlandlaw01_NumDivisors.f Man.num_Gcd.f
  rw [if_pos ⟨hl, hw⟩]
  simp only [Option.bind_some]
  obtain ⟨_, hd⟩ := gfold_dvd l 0
  have hc := fun c => dvd_gfold c l 0 (Nat.dvd_zero _)
  generalize Man.gfold 0 l = g at *
  unfold Man.gout
  by_cases c : g = 9223372036854775808
  · rw [if_pos c, if_neg (by decide), if_pos rfl, if_pos rfl, awake_at _ (by omega)]
    rfl
  · rw [if_neg c, if_pos rfl]
    exact div_l0 l a1 g (by omega) (fun x hx => Int.ofNat_dvd_left.2 (hd x hx))
      (fun h => Int.natAbs_dvd.1 (Int.ofNat_dvd.2 (hc a1.natAbs (fun x hx => Int.natAbs_dvd_natAbs.2 (h x hx))))) hl l.length _ 0 true (by omega) (by omega) (fun _ j hj => by omega)
theorem wfb {n : Int} (h : (Lit.int .i64 n).wf = true) : -9223372036854775808 ≤ n ∧ n ≤ 9223372036854775807 := by
  simp only [Lit.wf, IntKind.min, IntKind.max, IntKind.signed, IntKind.bits, Bool.and_eq_true, decide_eq_true_eq, if_true] at h
  omega
theorem walk (a0 : Option Addr) (len0 cap0 : Nat) (z0 : List Int) (a1 : Int) (w : World) (w0 : (a0 = none ∧ len0 = 0 ∧ cap0 = 0 ∧ z0 = []) ∨ ∃ x, a0 = some x ∧ len0 ≤ cap0 ∧ cap0 ≤ maxLen ∧ z0.length = cap0 ∧ (∀ i, i < z0.length → w.cell? (x.add i) = some (.int .i64 (z0.getD i 0))) ∧ ∀ n ∈ z0, (Lit.int .i64 n).wf = true) (y0 : len0 * 8 ≤ 140737488351232) (w1 : (Lit.int .i64 a1).wf = true) :
    Calls Try.prog 10 #[.slice a0 len0 cap0, .int .i64 a1] w fun e w' => e = .returned (.bool true) ∧ Below w.heap.size w w' := by
  obtain ⟨l0, rfl, hr0, hm0, hw0, hc0⟩ := ReadsInt.ofRowC w0
  obtain ⟨k, h⟩ := NumDivisors l0 a1 (by omega) (fun x hx => by have := wfb (hw0 x hx); omega)
  refine (Lw.headlandlaw01_NumDivisors.calls k _ _ l0 a1 true w (Kd.C_of_reads (d := (0 : Int)) (h1 := fun _ => rfl) hr0) hc0 h).mono ?_
  rintro e w' ⟨rfl, hd⟩
  exact ⟨rfl, hd.below⟩

end Go.Proofs.Ytimjibbjbfmkoaa.NumDivisors
