/- Plain laws of package cond: what the makers work out. No program in sight. -/
import Derived.Test.YtcakhbhjdpplcaaNr2
namespace Go.Proofs.Ytcakhbhjdpplcaa.Lp
open Go.RowKit Go.Proofs.Ytcakhbhjdpplcaa.Aa Go.Proofs.Ytcakhbhjdpplcaa.Man Go.Proofs.Ytcakhbhjdpplcaa.Nr Go.Proofs.YtcakhbhjdpplcaaW.PrintWords Go.Proofs.YtcakhbhjdpplcaaW.PrintLast
set_option linter.unusedVariables false
set_option linter.unusedSimpArgs false
set_option linter.unusedSectionVars false
theorem wfb {n : Int} (h : (Lit.int .i64 n).wf = true) : -9223372036854775808 ≤ n ∧ n ≤ 9223372036854775807 := by
  simp only [Lit.wf, IntKind.min, IntKind.max, IntKind.signed, IntKind.bits, Bool.and_eq_true, decide_eq_true_eq, if_true] at h
  omega
theorem w64 {n : Int} (h0 : -9223372036854775808 ≤ n) (h1 : n ≤ 9223372036854775807) : wrap64 n = n := by unfold wrap64; omega
theorem wu64 (n : Int) : IntKind.u64.wrap n = n % 18446744073709551616 := by simp [IntKind.wrap, IntKind.bits, IntKind.signed]
theorem rd_nat (l : List Int) (i : Nat) (h : i < l.length) : rd l (i : Int) = l[i] := by
  unfold rd
  simp [h]
def Fit (a : Int) : Prop := -1048576 ≤ a ∧ a ≤ 1048576
def fitB (a : Int) : Bool := decide (-1048576 ≤ a ∧ a ≤ 1048576)
def valB (l : List Int) (c : Int) : Bool := l.all fitB && decide (l.length ≤ 12) && fitB c
theorem valB_iff (l : List Int) (c : Int) : valB l c = true ↔ (∀ x ∈ l, -1048576 ≤ x ∧ x ≤ 1048576) ∧ l.length ≤ 12 ∧ -1048576 ≤ c ∧ c ≤ 1048576 := by
  simp [valB, fitB, and_assoc]
theorem fits_aa (a : Int) : num_Fits.f a = some (fitB a) := by
  unfold num_Fits.f fitB
  by_cases h : a ≥ -1048576
  · rw [if_pos h]; congr 1; simp only [decide_eq_decide]; omega
  · rw [if_neg h]; congr 1; symm; simp only [decide_eq_false_iff_not]; omega
theorem fits_ra (a : Int) : headlandref01_Fits.f a = some (fitB a) := fits_aa a
theorem valid_l0 (l : List Int) (c : Int) (hm : l.length ≤ maxLen) : ∀ (d k i : Nat), i ≤ l.length → l.length - i = d → d < k →
    lin_Valid.l0 k l (l.length : Int) (i : Int) l c = some ((l.drop i).all fitB && decide (l.length ≤ 12) && fitB c) := by
  have hM : maxLen = 9223372036854775807 := by decide
  intro d
  induction d with
  | zero =>
    intro k i h0 hd hk
    obtain ⟨k, rfl⟩ : ∃ m, k = m + 1 := ⟨k - 1, by omega⟩
    have : i = l.length := by omega
    subst this
    simp only [lin_Valid.l0, fits_aa, Option.bind_some]
    rw [if_neg (by omega)]
    by_cases h : l.length ≤ 12
    · rw [if_pos (by omega)]; simp [h]
    · rw [if_neg (by omega)]; simp [h]
  | succ d ih =>
    intro k i h0 hd hk
    obtain ⟨k, rfl⟩ : ∃ m, k = m + 1 := ⟨k - 1, by omega⟩
    have hlt : i < l.length := by omega
    simp only [lin_Valid.l0, fits_aa, Option.bind_some]
    rw [if_pos (by omega), if_pos (by omega), if_pos (by omega), rd_nat l i hlt, List.drop_eq_getElem_cons hlt, List.all_cons]
    by_cases hf : fitB l[i] = true
    · rw [if_pos hf, w64 (by omega) (by omega)]
      have := ih k (i + 1) (by omega) (by omega) (by omega)
      rw [Int.natCast_succ] at this
      rw [this, hf, Bool.true_and]
    · rw [if_neg hf]
      simp only [Bool.not_eq_true] at hf
      rw [hf, Bool.false_and, Bool.false_and, Bool.false_and]
theorem valid_aa {l : List Int} (c : Int) (hm : l.length ≤ maxLen) {k : Nat} (hk : l.length < k) : lin_Valid.f k l c = some (valB l c) := by
  unfold lin_Valid.f
  exact valid_l0 l c hm l.length k 0 (by omega) (by omega) hk
theorem ref_aa_l0 : ∀ (k : Nat) (x : List Int) (n i : Int) (y : List Int) (c : Int), headlandref02_Valid.l0 k x n i y c = lin_Valid.l0 k x n i y c := by
  intro k
  induction k with
  | zero => intros; rfl
  | succ k ih => intro x n i y c; simp only [headlandref02_Valid.l0, lin_Valid.l0, fits_ra, fits_aa, ih]
theorem valid_ra {l : List Int} (c : Int) (hm : l.length ≤ maxLen) {k : Nat} (hk : l.length < k) : headlandref02_Valid.f k l c = some (valB l c) := by
  rw [← valid_aa c hm hk]; exact ref_aa_l0 _ _ _ _ _ _
/-- A valid condition. -/
def condB (c m : Int) (l : List Int) (K : Int) : Bool := valB l K && ((decide (c = 0 ∨ c = 1) && decide (m = 0)) || (decide (c = 2) && decide (1 ≤ m ∧ m ≤ 512)))
theorem cvalid (c m K : Int) {l : List Int} (hm : l.length ≤ maxLen) {k : Nat} (hk : l.length + 1 < k) : cond_Valid.f k c m l K = some (condB c m l K) := by
  obtain ⟨k, rfl⟩ : ∃ m, k = m + 1 := ⟨k - 1, by omega⟩
  unfold cond_Valid.f condB
  simp only [cond_Valid.j0, valid_aa K hm (show l.length < k by omega), Option.bind_some]
  by_cases h0 : c = 0
  · subst h0; by_cases hm0 : m = 0 <;> cases valB l K <;> simp [hm0]
  · by_cases h1 : c = 1
    · subst h1; by_cases hm0 : m = 0 <;> cases valB l K <;> simp [hm0]
    · by_cases h2 : c = 2
      · subst h2; by_cases ha : m ≥ 1 <;> by_cases hb : m ≤ 512 <;> cases valB l K <;> simp [ha, hb]
      · simp [h0, h1, h2]
theorem rvalid (c m K : Int) {l : List Int} (hm : l.length ≤ maxLen) {k : Nat} (hk : l.length + 1 < k) : headlandref03_Valid.f k c m l K = some (condB c m l K) := by
  unfold headlandref03_Valid.f condB
  rw [valid_ra K hm (by omega)]
  simp only [Option.bind_some]
  by_cases h0 : c = 0
  · subst h0; by_cases hm0 : m = 0 <;> cases valB l K <;> simp [hm0]
  · by_cases h1 : c = 1
    · subst h1; by_cases hm0 : m = 0 <;> cases valB l K <;> simp [hm0]
    · by_cases h2 : c = 2
      · subst h2; by_cases ha : m ≥ 1 <;> by_cases hb : m ≤ 512 <;> cases valB l K <;> simp [ha, hb]
      · simp [h0, h1, h2]
/-! Loops that fill a row -/
theorem fill_set (T : List Int) (i : Nat) (h : i < T.length) (v : Int) (hv : v = T[i]) : (T.take i ++ List.replicate (T.length - i) 0).set i v = T.take (i + 1) ++ List.replicate (T.length - (i + 1)) 0 := by
  subst hv
  have e : T.length - i = (T.length - (i + 1)) + 1 := by omega
  rw [List.set_append_right _ _ (by simp; omega), e, List.replicate_succ]
  have : i - (T.take i).length = 0 := by simp; omega
  rw [this, List.set_cons_zero, List.take_succ_eq_append_getElem h, List.append_assoc]
  rfl
theorem fill_len (T : List Int) (i : Nat) (h : i ≤ T.length) : (T.take i ++ List.replicate (T.length - i) 0).length = T.length := by simp; omega
theorem fill_end (T : List Int) (n : Nat) (h : T.length = n) : T.take n ++ List.replicate (T.length - n) 0 = T := by subst h; simp
def quo (l : List Int) (g : Int) : List Int := l.map fun n => wrap64 (Int.tdiv n g)
theorem by_l0 (g : Int) (hg : g ≠ 0) (l T : List Int) (h12 : l.length ≤ 12) (hT : T = quo l g) : ∀ (d k i : Nat), i ≤ l.length → l.length - i = d → d < k →
    cond_maker_by.l0 k g (T.take i ++ List.replicate (T.length - i) 0) l (l.length : Int) (i : Int) = some T := by
  have hTl : T.length = l.length := by rw [hT]; simp [quo]
  intro d
  induction d with
  | zero =>
    intro k i h0 hd hk
    obtain ⟨k, rfl⟩ : ∃ m, k = m + 1 := ⟨k - 1, by omega⟩
    simp only [cond_maker_by.l0]
    rw [if_neg (by omega), fill_end T i (by omega)]
  | succ d ih =>
    intro k i h0 hd hk
    obtain ⟨k, rfl⟩ : ∃ m, k = m + 1 := ⟨k - 1, by omega⟩
    have hlt : i < l.length := by omega
    have hTi : wrap64 (Int.tdiv l[i] g) = T[i]'(by omega) := by subst hT; simp [quo]
    simp only [cond_maker_by.l0]
    rw [fill_len T i (by omega), if_pos (by omega), if_pos (by omega), if_pos (by omega), if_neg hg, if_pos (by omega), rd_nat l i hlt, w64 (n := (i : Int) + 1) (by omega) (by omega), Int.toNat_natCast, fill_set T i (by omega) _ hTi]
    have := ih k (i + 1) (by omega) (by omega) (by omega)
    rw [Int.natCast_succ] at this
    exact this
theorem by_f (a b K g : Int) (hg : g ≠ 0) (l : List Int) (h12 : l.length ≤ 12) (k : Nat) (hk : 20 ≤ k) : cond_maker_by.f k a b l K g = some (quo l g) := by
  unfold cond_maker_by.f
  rw [if_pos (by omega), if_pos (by omega), Int.toNat_natCast]
  have := by_l0 g hg l (quo l g) h12 rfl l.length k 0 (by omega) (by omega) (by omega)
  rw [List.take_zero, List.nil_append, Nat.sub_zero, show (quo l g).length = l.length by simp [quo]] at this
  exact this
/-! The greatest common divisor: from some number of rounds on -/
theorem size_eq (n : Int) (h : n.natAbs ≤ 9223372036854775808) : num_size.f n = some (n.natAbs : Int) := by
  unfold num_size.f
  split
  · rw [wu64, wu64]; congr 1; omega
  · rw [wu64]; congr 1; omega
theorem common_ev (a : Nat) : ∀ g : Nat, ∃ k0, ∀ k, k0 ≤ k → num_common.l0 k (g : Int) (a : Int) = some ((Nat.gcd g a : Nat) : Int) := by
  induction a using Nat.strongRecOn with
  | ind a ih =>
    intro g
    by_cases c : a = 0
    · subst c
      refine ⟨1, fun k hk => ?_⟩
      obtain ⟨k, rfl⟩ : ∃ m, k = m + 1 := ⟨k - 1, by omega⟩
      simp only [num_common.l0]
      rw [if_neg (by omega)]
      simp
    · have e : Nat.gcd a (g % a) = Nat.gcd g a := by
        rw [Nat.gcd_comm g a, Nat.gcd_rec a g, Nat.gcd_comm]
      obtain ⟨k0, h⟩ := ih (g % a) (Nat.mod_lt _ (by omega)) a
      refine ⟨k0 + 1, fun k hk => ?_⟩
      obtain ⟨k, rfl⟩ : ∃ m, k = m + 1 := ⟨k - 1, by omega⟩
      simp only [num_common.l0]
      rw [if_pos (by omega), if_neg (by omega), ← Int.ofNat_tmod, h k (by omega), e]
def gfold (g : Nat) (l : List Int) : Nat := l.foldl (fun g n => Nat.gcd g n.natAbs) g
theorem gfold_bd (B : Nat) (l : List Int) : ∀ g, g ≤ B → (∀ x ∈ l, x.natAbs ≤ B) → gfold g l ≤ B := by
  induction l with
  | nil => intro g h _; exact h
  | cons a l ih =>
    intro g h hl
    refine ih _ ?_ (fun x hx => hl x (List.mem_cons_of_mem _ hx))
    by_cases c : g = 0
    · subst c; simpa using hl a List.mem_cons_self
    · exact Nat.le_trans (Nat.gcd_le_left _ (by omega)) h
theorem fold_ev (l : List Int) (h12 : l.length ≤ 13) (hb : ∀ x ∈ l, x.natAbs ≤ 1048576) (d : Nat) : ∀ (g i : Nat), i + d = l.length → ∃ k0, ∀ k, k0 ≤ k → num_fold_uint64_Gcd_1.l0 k (g : Int) l (l.length : Int) (i : Int) = some ((gfold g (l.drop i) : Nat) : Int) := by
  induction d with
  | zero =>
    intro g i hi
    refine ⟨1, fun k hk => ?_⟩
    obtain ⟨k, rfl⟩ : ∃ m, k = m + 1 := ⟨k - 1, by omega⟩
    simp only [num_fold_uint64_Gcd_1.l0]
    rw [if_neg (by omega), List.drop_of_length_le (by omega)]
    rfl
  | succ d ih =>
    intro g i hi
    have hin : i < l.length := by omega
    obtain ⟨k1, h1⟩ := ih (Nat.gcd g l[i].natAbs) (i + 1) (by omega)
    obtain ⟨k2, h2⟩ := common_ev l[i].natAbs g
    refine ⟨k1 + k2 + 1, fun k hk => ?_⟩
    obtain ⟨k, rfl⟩ : ∃ m, k = m + 1 := ⟨k - 1, by omega⟩
    have hs := size_eq l[i] (by have := hb _ (List.getElem_mem hin); omega)
    have h1' := h1 k (by omega)
    rw [Int.natCast_succ] at h1'
    simp only [num_fold_uint64_Gcd_1.l0, num_Gcd_1.f, num_common.f]
    rw [if_pos (by omega), if_pos (by omega), if_pos (by omega), rd_nat l i hin, hs]
    simp only [Option.bind_some]
    rw [h2 k (by omega)]
    simp only [Option.bind_some]
    rw [w64 (by omega) (by omega), h1', List.drop_eq_getElem_cons hin]
    rfl
theorem gcd_ev (l : List Int) (h12 : l.length ≤ 13) (hb : ∀ x ∈ l, x.natAbs ≤ 1048576) : ∃ k0, ∀ k, k0 ≤ k → num_Gcd.f k l = some (((gfold 0 l : Nat) : Int), 0) := by
  obtain ⟨k0, h⟩ := fold_ev l h12 hb l.length 0 0 (by omega)
  have hbd := gfold_bd 1048576 l 0 (by omega) hb
  refine ⟨k0, fun k hk => ?_⟩
  have := h k hk
  rw [List.drop_zero] at this
  unfold num_Gcd.f num_fold_uint64_Gcd_1.f
  simp only [Int.natCast_zero] at this
  rw [this]
  simp only [Option.bind_some]
  rw [if_neg (by omega), w64 (by omega) (by omega)]
/-! What both sides answer -/
def flo (K g : Int) : Int := if Int.tmod K g < 0 then wrap64 (wrap64 (Int.tdiv K g) - 1) else wrap64 (Int.tdiv K g)
def modv (n M : Int) : Int := if Int.tmod n M < 0 then wrap64 (Int.tmod n M + M) else Int.tmod n M
theorem floor_f (K g : Int) (hg : 1 ≤ g) : num_Floor.f K g = some (flo K g, 0) := by
  unfold num_Floor.f flo
  rw [if_neg (by omega), if_neg (by omega)]
  split <;> rfl
theorem mod_f (n M : Int) (hM : 1 ≤ M) : num_Mod.f n M = some (modv n M, 0) := by
  unfold num_Mod.f modv
  rw [if_neg (by omega), if_neg (by omega)]
  split <;> rfl
theorem modv_bd (n M : Int) (h1 : 1 ≤ M) (h2 : M ≤ 512) : 0 ≤ modv n M ∧ modv n M < M := by
  have a := Int.tmod_lt_of_pos n (show 0 < M by omega)
  have b := Int.lt_tmod_of_pos n (show 0 < M by omega)
  unfold modv
  split
  · rw [w64 (by omega) (by omega)]; omega
  · omega
theorem tdiv_bd (n g : Int) : (Int.tdiv n g).natAbs ≤ n.natAbs := by
  rw [Int.natAbs_tdiv]
  exact Nat.div_le_self _ _
theorem quo_fit (l : List Int) (g : Int) (hf : ∀ x ∈ l, -1048576 ≤ x ∧ x ≤ 1048576) : ∀ x ∈ quo l g, -1048576 ≤ x ∧ x ≤ 1048576 := by
  intro x hx
  obtain ⟨n, hn, rfl⟩ := List.mem_map.1 hx
  have := tdiv_bd n g
  have h := hf n hn
  rw [w64 (by omega) (by omega)]
  omega
theorem flo_bd (K g : Int) (hg : 1 ≤ g) (hK : -1048576 ≤ K ∧ K ≤ 1048576) : -1048576 ≤ flo K g ∧ flo K g ≤ 1048576 := by
  have h1 := tdiv_bd K g
  have h2 := Int.mul_tdiv_add_tmod K g
  have hb := Int.lt_tmod_of_pos K (show 0 < g by omega)
  unfold flo
  generalize hq : Int.tdiv K g = q at *
  rw [w64 (n := q) (by omega) (by omega)]
  split
  · rename_i hm
    rw [w64 (by omega) (by omega)]
    refine ⟨?_, by omega⟩
    by_cases e : q = -1048576
    · subst e; omega
    · omega
  · omega
/-- What the kinds answer: the condition and its state. -/
def outGe (l : List Int) (K : Int) : Int × Int × List Int × Int × Int := if gfold 0 l = 0 then (0, 0, [], 0, if K ≥ 0 then 1 else -1) else (0, 0, quo l (gfold 0 l : Nat), flo K (gfold 0 l : Nat), 0)
def sgn (g : Int) : List Int → Int
  | [] => g
  | n :: l => if n = 0 then sgn g l else if n < 0 then wrap64 (-g) else g
def outEq (l : List Int) (K : Int) : Int × Int × List Int × Int × Int :=
  if gfold 0 l = 0 then (0, 0, [], 0, if K = 0 then 1 else -1) else if Int.tmod K (gfold 0 l : Nat) = 0 then (1, 0, quo l (sgn (gfold 0 l : Nat) l), wrap64 (Int.tdiv K (sgn (gfold 0 l : Nat) l)), 0) else (0, 0, [], 0, -1)
def mods (l : List Int) (M : Int) : List Int := l.map fun n => modv n M
def outDiv (l : List Int) (K M : Int) : Int × Int × List Int × Int × Int :=
  if Int.tmod (modv K M) (gfold M.natAbs (mods l M) : Nat) = 0 then (if M = (gfold M.natAbs (mods l M) : Nat) then (0, 0, [], 0, 1) else (2, wrap64 (Int.tdiv M (gfold M.natAbs (mods l M) : Nat)), quo (mods l M) (gfold M.natAbs (mods l M) : Nat), wrap64 (Int.tdiv (modv K M) (gfold M.natAbs (mods l M) : Nat)), 0)) else (0, 0, [], 0, -1)
theorem sgn_bd (g : Int) (hg : 1 ≤ g) (hb : g ≤ 1048576) : ∀ l, sgn g l = g ∨ sgn g l = -g := by
  intro l
  induction l with
  | nil => exact .inl rfl
  | cons n l ih =>
    simp only [sgn]
    split
    · exact ih
    · split
      · exact .inr (w64 (by omega) (by omega))
      · exact .inl rfl
theorem gfold_gcd (l : List Int) : ∀ g, gfold g l = Nat.gcd g (gfold 0 l) := by
  induction l with
  | nil => intro g; simp [gfold]
  | cons a l ih =>
    intro g
    show gfold (Nat.gcd g a.natAbs) l = Nat.gcd g (gfold (Nat.gcd 0 a.natAbs) l)
    rw [ih (Nat.gcd g a.natAbs), ih (Nat.gcd 0 a.natAbs), Nat.gcd_zero_left, Nat.gcd_assoc]
theorem gfold_snoc (l : List Int) (M : Int) : gfold 0 (l ++ [M]) = gfold M.natAbs l := by
  rw [gfold_gcd l M.natAbs, Nat.gcd_comm]
  unfold gfold
  rw [List.foldl_append]
  rfl
theorem gfold_pos (l : List Int) : ∀ g, 1 ≤ g → 1 ≤ gfold g l := by
  induction l with
  | nil => intro g h; exact h
  | cons a l ih => intro g h; exact ih _ (Nat.gcd_pos_of_pos_left _ (by omega))
theorem gfold_le (l : List Int) : ∀ g, 1 ≤ g → gfold g l ≤ g := by
  induction l with
  | nil => intro g h; exact Nat.le_refl _
  | cons a l ih => intro g h; exact Nat.le_trans (ih _ (Nat.gcd_pos_of_pos_left _ (by omega))) (Nat.gcd_le_left _ (by omega))
def fin (T : List Int) (K M h : Int) : Int × Int × List Int × Int × Int :=
  if Int.tmod (modv K M) h = 0 then (if M = h then (0, 0, [], 0, 1) else (2, wrap64 (Int.tdiv M h), quo T h, wrap64 (Int.tdiv (modv K M) h), 0)) else (0, 0, [], 0, -1)
section
variable {l : List Int} {K : Int} (h12 : l.length ≤ 12) (hf : ∀ x ∈ l, -1048576 ≤ x ∧ x ≤ 1048576) (hK : -1073741824 ≤ K ∧ K ≤ 1073741824)
include h12 hf hK
theorem g_bd : (gfold 0 l) ≤ 1048576 := gfold_bd 1048576 l 0 (by omega) (fun x hx => by have := hf x hx; omega)
theorem ge_ev (M : Int) : ∃ k0, ∀ k, k0 ≤ k → cond_maker_ge.f k 0 M l K = some (outGe l K) := by
  have hb := g_bd h12 hf hK
  obtain ⟨k1, h1⟩ := gcd_ev l (by omega) (fun x hx => by have := hf x hx; omega)
  refine ⟨k1 + 20, fun k hk => ?_⟩
  unfold cond_maker_ge.f outGe
  rw [h1 k (by omega)]
  simp only [Option.bind_some, cond_sure.f]
  by_cases c : gfold 0 l = 0
  · rw [if_pos c, c]
    by_cases d : K ≥ 0
    · simp [d]
    · simp [d]
  · have c' : ¬ ((gfold 0 l : Nat) : Int) = 0 := by omega
    rw [if_neg c, if_neg c', floor_f K _ (by omega)]
    simp only [Option.bind_some]
    rw [by_f 0 M K _ c' l h12 k (by omega)]
    simp
theorem eq_l0 (M g : Int) (hg : 1 ≤ g) (hgb : g ≤ 1048576) : ∀ (d k i : Nat), i ≤ l.length → l.length - i = d → d + 20 < k →
    cond_maker_eq.l0 k g l (l.length : Int) (i : Int) 1 M l K = some (1, 0, quo l (sgn g (l.drop i)), wrap64 (Int.tdiv K (sgn g (l.drop i))), 0) := by
  have hw : wrap64 (-g) = -g := w64 (by omega) (by omega)
  intro d
  induction d with
  | zero =>
    intro k i h0 hd hk
    obtain ⟨k, rfl⟩ : ∃ m, k = m + 1 := ⟨k - 1, by omega⟩
    simp only [cond_maker_eq.l0]
    rw [if_neg (by omega), List.drop_of_length_le (by omega), by_f 1 M K g (by omega) l h12 k (by omega)]
    simp only [Option.bind_some, sgn]
    rw [if_neg (by omega)]
  | succ d ih =>
    intro k i h0 hd hk
    obtain ⟨k, rfl⟩ : ∃ m, k = m + 1 := ⟨k - 1, by omega⟩
    have hlt : i < l.length := by omega
    simp only [cond_maker_eq.l0]
    simp only [show (i : Int) < (l.length : Int) from by omega, show (0 : Int) ≤ (i : Int) from by omega, if_true, rd_nat l i hlt]
    rw [List.drop_eq_getElem_cons hlt]
    simp only [sgn]
    by_cases e : l[i] = 0
    · rw [if_pos e, if_pos e, w64 (n := (i : Int) + 1) (by omega) (by omega)]
      have := ih k (i + 1) (by omega) (by omega) (by omega)
      rw [Int.natCast_succ] at this
      exact this
    · rw [if_neg e, if_neg e]
      by_cases e2 : l[i] < 0
      · rw [if_pos e2, if_pos e2, hw, by_f 1 M K (-g) (by omega) l h12 k (by omega)]
        simp only [Option.bind_some]
        rw [if_neg (by omega)]
      · rw [if_neg e2, if_neg e2, by_f 1 M K g (by omega) l h12 k (by omega)]
        simp only [Option.bind_some]
        rw [if_neg (show ¬ g = 0 by omega)]
theorem eq_ev (M : Int) : ∃ k0, ∀ k, k0 ≤ k → cond_maker_eq.f k 1 M l K = some (outEq l K) := by
  have hb := g_bd h12 hf hK
  obtain ⟨k1, h1⟩ := gcd_ev l (by omega) (fun x hx => by have := hf x hx; omega)
  refine ⟨k1 + 60, fun k hk => ?_⟩
  unfold cond_maker_eq.f outEq
  rw [h1 k (by omega)]
  obtain ⟨k, rfl⟩ : ∃ m, k = m + 1 := ⟨k - 1, by omega⟩
  simp only [Option.bind_some, cond_sure.f, cond_maker_eq.j0]
  by_cases c : gfold 0 l = 0
  · rw [if_pos c, c]
    by_cases d : K = 0
    · simp [d]
    · simp [d]
  · have c' : ¬ ((gfold 0 l : Nat) : Int) = 0 := by omega
    rw [if_neg c]
    by_cases d : Int.tmod K ((gfold 0 l : Nat) : Int) = 0
    · have e1 := eq_l0 h12 hf hK M ((gfold 0 l : Nat) : Int) (by omega) (by omega) l.length k 0 (by omega) (by omega) (by omega)
      rw [List.drop_zero, Int.natCast_zero] at e1
      simp only [c', d, if_true, if_false, bne_self_eq_false, Bool.false_eq_true]
      exact e1
    · simp [c, c', d]
theorem div_l0 (M : Int) (hM1 : 1 ≤ M) (hM2 : M ≤ 512) (T : List Int) (hT : T = mods l M) (d : Nat) : ∀ (h i : Nat), 1 ≤ h → h ≤ 512 → i + d = l.length → ∃ k0, ∀ k, k0 ≤ k →
    cond_maker_div.l0 k M (h : Int) l (l.length : Int) (i : Int) 2 M l K (T.take i ++ List.replicate (T.length - i) 0) 0 = some (fin T K M (gfold h (T.drop i) : Nat)) := by
  have hTl : T.length = l.length := by rw [hT]; simp [mods]
  induction d with
  | zero =>
    intro h i h1 h2 hi
    refine ⟨30, fun k hk => ?_⟩
    obtain ⟨k, rfl⟩ : ∃ m, k = m + 1 := ⟨k - 1, by omega⟩
    simp only [cond_maker_div.l0, cond_sure.f]
    rw [if_neg (by omega), fill_end T i (by omega), List.drop_of_length_le (by omega), show gfold h [] = h from rfl, mod_f K M hM1]
    simp only [Option.bind_some, if_true, Bool.false_eq_true, if_false]
    rw [if_neg (by omega), by_f 0 0 _ (h : Int) (by omega) T (by omega) k (by omega)]
    unfold fin
    split
    · split
      · rfl
      · rfl
    · rfl
  | succ d ih =>
    intro h i h1 h2 hi
    have hlt : i < l.length := by omega
    have hTi : modv l[i] M = T[i]'(by omega) := by subst hT; simp [mods]
    have hmb := modv_bd l[i] M hM1 hM2
    obtain ⟨k1, e1⟩ := ih (Nat.gcd h (modv l[i] M).natAbs) (i + 1) (Nat.gcd_pos_of_pos_left _ (by omega)) (Nat.le_trans (Nat.gcd_le_left _ (by omega)) h2) (by omega)
    obtain ⟨k2, e2⟩ := gcd_ev [(h : Int), modv l[i] M] (by simp) (by intro x hx; simp only [List.mem_cons, List.not_mem_nil, or_false] at hx; rcases hx with rfl | rfl <;> omega)
    have eg : gfold 0 [(h : Int), modv l[i] M] = Nat.gcd h (modv l[i] M).natAbs := by simp [gfold]
    rw [eg] at e2
    refine ⟨k1 + k2 + 1, fun k hk => ?_⟩
    obtain ⟨k, rfl⟩ : ∃ m, k = m + 1 := ⟨k - 1, by omega⟩
    have e1' := e1 k (by omega)
    rw [Int.natCast_succ] at e1'
    simp only [cond_maker_div.l0]
    rw [fill_len T i (by omega), if_pos (by omega), if_pos (by omega), if_pos (by omega), rd_nat l i hlt, mod_f _ M hM1]
    simp only [Option.bind_some]
    rw [if_pos (by omega), e2 k (by omega)]
    simp only [Option.bind_some]
    rw [w64 (n := (i : Int) + 1) (by omega) (by omega), Int.toNat_natCast, fill_set T i (by omega) _ hTi, e1', List.drop_eq_getElem_cons (show i < T.length by omega), ← hTi]
    rfl
theorem div_ev (M : Int) (hM1 : 1 ≤ M) (hM2 : M ≤ 512) : ∃ k0, ∀ k, k0 ≤ k → cond_maker_div.f k 2 M l K = some (fin (mods l M) K M (gfold M.natAbs (mods l M) : Nat)) := by
  have hTl : (mods l M).length = l.length := by simp [mods]
  obtain ⟨k1, e1⟩ := div_l0 h12 hf hK M hM1 hM2 (mods l M) rfl l.length M.natAbs 0 (by omega) (by omega) (by omega)
  rw [List.take_zero, List.nil_append, Nat.sub_zero, hTl] at e1
  refine ⟨k1, fun k hk => ?_⟩
  have e1' := e1 k (by omega)
  rw [List.drop_zero, Int.natCast_zero, show ((M.natAbs : Nat) : Int) = M by omega] at e1'
  unfold cond_maker_div.f
  rw [if_pos (by omega), if_pos (by omega), Int.toNat_natCast, e1']
end
theorem same_l0 (l : List Int) (a b : Int) (hm : l.length ≤ maxLen) : ∀ (d k i : Nat), i ≤ l.length → l.length - i = d → d < k →
    headlandref02_Same.l0 k (l.length : Int) (i : Int) l a l b = some true := by
  have hM : maxLen = 9223372036854775807 := by decide
  intro d
  induction d with
  | zero =>
    intro k i h0 hd hk
    obtain ⟨k, rfl⟩ : ∃ m, k = m + 1 := ⟨k - 1, by omega⟩
    simp only [headlandref02_Same.l0]
    rw [if_neg (by omega)]
  | succ d ih =>
    intro k i h0 hd hk
    obtain ⟨k, rfl⟩ : ∃ m, k = m + 1 := ⟨k - 1, by omega⟩
    simp only [headlandref02_Same.l0]
    rw [if_pos (by omega), if_pos (by omega), if_pos (by omega), if_pos (by omega), if_pos trivial, w64 (by omega) (by omega)]
    exact ih k (i + 1) (by omega) (by omega) (by omega)
theorem same_refl {l : List Int} (c m a : Int) (hm : l.length ≤ maxLen) {k : Nat} (hk : l.length + 1 < k) : headlandref03_Same.f k c m l a c m l a = some true := by
  obtain ⟨k, rfl⟩ : ∃ m, k = m + 1 := ⟨k - 1, by omega⟩
  unfold headlandref03_Same.f headlandref02_Same.f
  rw [if_pos rfl, if_pos rfl, if_pos rfl]
  simp only [headlandref02_Same.j0, bne_self_eq_false, Bool.false_eq_true, if_false]
  have e := same_l0 l a a hm l.length k 0 (by omega) (by omega) (by omega)
  rw [Int.natCast_zero] at e
  rw [e]
  rfl
/-- What the makers answer for a valid condition: a valid condition where the state is 0. -/
def Fine (r : Int × Int × List Int × Int × Int) : Prop := r.2.2.1.length ≤ 12 ∧ (r.2.2.2.2 = 0 → condB r.1 r.2.1 r.2.2.1 r.2.2.2.1 = true)
theorem quo_len (l : List Int) (g : Int) : (quo l g).length = l.length := by simp [quo]
theorem fine_ge {l : List Int} {K : Int} (h12 : l.length ≤ 12) (hf : ∀ x ∈ l, -1048576 ≤ x ∧ x ≤ 1048576) (hK : -1048576 ≤ K ∧ K ≤ 1048576) : Fine (outGe l K) := by
  unfold outGe
  by_cases c : gfold 0 l = 0
  · rw [if_pos c]
    refine ⟨by simp, fun h => ?_⟩
    simp only at h
    split at h <;> omega
  · rw [if_neg c]
    refine ⟨by simp [quo_len, h12], fun _ => ?_⟩
    have h1 := quo_fit l (gfold 0 l : Nat) hf
    have h2 := flo_bd K (gfold 0 l : Nat) (by omega) hK
    have : valB (quo l (gfold 0 l : Nat)) (flo K (gfold 0 l : Nat)) = true := (valB_iff _ _).2 ⟨h1, by rw [quo_len]; exact h12, h2.1, h2.2⟩
    simp [condB, this]
theorem fine_eq {l : List Int} {K : Int} (h12 : l.length ≤ 12) (hf : ∀ x ∈ l, -1048576 ≤ x ∧ x ≤ 1048576) (hK : -1048576 ≤ K ∧ K ≤ 1048576) : Fine (outEq l K) := by
  unfold outEq
  by_cases c : gfold 0 l = 0
  · rw [if_pos c]
    refine ⟨by simp, fun h => ?_⟩
    simp only at h
    split at h <;> omega
  · rw [if_neg c]
    split
    · refine ⟨by simp [quo_len, h12], fun _ => ?_⟩
      have h1 := quo_fit l (sgn (gfold 0 l : Nat) l) hf
      have h2 := tdiv_bd K (sgn (gfold 0 l : Nat) l)
      have h3 : -1048576 ≤ wrap64 (Int.tdiv K (sgn (gfold 0 l : Nat) l)) ∧ wrap64 (Int.tdiv K (sgn (gfold 0 l : Nat) l)) ≤ 1048576 := by rw [w64 (by omega) (by omega)]; omega
      have : valB (quo l (sgn (gfold 0 l : Nat) l)) (wrap64 (Int.tdiv K (sgn (gfold 0 l : Nat) l))) = true := (valB_iff _ _).2 ⟨h1, by rw [quo_len]; exact h12, h3.1, h3.2⟩
      simp [condB, this]
    · exact ⟨by simp, fun h => by simp at h⟩
theorem fine_div {l : List Int} {K M : Int} (h12 : l.length ≤ 12) (hM1 : 1 ≤ M) (hM2 : M ≤ 512) : Fine (fin (mods l M) K M (gfold M.natAbs (mods l M) : Nat)) := by
  have hp := gfold_pos (mods l M) M.natAbs (by omega)
  have hl := gfold_le (mods l M) M.natAbs (by omega)
  have hdv : gfold M.natAbs (mods l M) ∣ M.natAbs := by rw [gfold_gcd]; exact Nat.gcd_dvd_left _ _
  have hml : (mods l M).length = l.length := by simp [mods]
  unfold fin
  split
  · split
    · exact ⟨by simp, fun h => by simp at h⟩
    · refine ⟨by simp [quo_len, hml, h12], fun _ => ?_⟩
      generalize hg : gfold M.natAbs (mods l M) = g at *
      have hmf : ∀ x ∈ mods l M, -1048576 ≤ x ∧ x ≤ 1048576 := by
        intro x hx
        obtain ⟨n, _, rfl⟩ := List.mem_map.1 hx
        have := modv_bd n M hM1 hM2
        omega
      have h1 := quo_fit (mods l M) (g : Nat) hmf
      have h2 := tdiv_bd (modv K M) (g : Nat)
      have h3 := modv_bd K M hM1 hM2
      have h4 : -1048576 ≤ wrap64 (Int.tdiv (modv K M) (g : Nat)) ∧ wrap64 (Int.tdiv (modv K M) (g : Nat)) ≤ 1048576 := by rw [w64 (by omega) (by omega)]; omega
      have : valB (quo (mods l M) (g : Nat)) (wrap64 (Int.tdiv (modv K M) (g : Nat))) = true := (valB_iff _ _).2 ⟨h1, by rw [quo_len, hml]; exact h12, h4.1, h4.2⟩
      have h5 := tdiv_bd M (g : Nat)
      have h6 : 1 ≤ Int.tdiv M (g : Nat) := by
        have e : Int.tdiv M (g : Nat) = ((M.natAbs / g : Nat) : Int) := by
          obtain ⟨m, rfl⟩ : ∃ m : Nat, M = m := ⟨M.natAbs, by omega⟩
          rw [← Int.ofNat_tdiv]
          simp
        have : 0 < M.natAbs / g := Nat.div_pos hl (by omega)
        omega
      have h7 : 1 ≤ wrap64 (Int.tdiv M (g : Nat)) ∧ wrap64 (Int.tdiv M (g : Nat)) ≤ 512 := by rw [w64 (by omega) (by omega)]; omega
      simp [condB, this, h7]
  · exact ⟨by simp, fun h => by simp at h⟩
/-- The normal form that both sides work out. -/
def rawOf (c M : Int) (l : List Int) (K : Int) : Int × Int × List Int × Int × Int := if c = 0 then outGe l K else if c = 1 then outEq l K else fin (mods l M) K M (gfold M.natAbs (mods l M) : Nat)
theorem rawOf_ev (c M : Int) (l : List Int) (K : Int) (hv : condB c M l K = true) : Fine (rawOf c M l K) ∧ ∃ k0, ∀ k, k0 ≤ k → cond_Raw.f k c M l K = some (rawOf c M l K) := by
  simp only [condB, Bool.and_eq_true, Bool.or_eq_true, decide_eq_true_eq] at hv
  obtain ⟨hv1, hv2⟩ := hv
  obtain ⟨hf, h12, hK1, hK2⟩ := (valB_iff l K).1 hv1
  unfold rawOf
  rcases hv2 with ⟨h0 | h0, rfl⟩ | ⟨rfl, hM1, hM2⟩
  · subst h0
    obtain ⟨k0, h⟩ := ge_ev h12 hf (show -1073741824 ≤ K ∧ K ≤ 1073741824 from ⟨by omega, by omega⟩) 0
    exact ⟨by rw [if_pos rfl]; exact fine_ge h12 hf ⟨hK1, hK2⟩, k0, fun k hk => by unfold cond_Raw.f; rw [if_pos rfl, if_pos rfl]; exact h k hk⟩
  · subst h0
    obtain ⟨k0, h⟩ := eq_ev h12 hf (show -1073741824 ≤ K ∧ K ≤ 1073741824 from ⟨by omega, by omega⟩) 0
    exact ⟨by rw [if_neg (by decide), if_pos rfl]; exact fine_eq h12 hf ⟨hK1, hK2⟩, k0, fun k hk => by unfold cond_Raw.f; rw [if_neg (by decide), if_pos rfl, if_neg (by decide), if_pos rfl]; exact h k hk⟩
  · obtain ⟨k0, h⟩ := div_ev h12 hf (show -1073741824 ≤ K ∧ K ≤ 1073741824 from ⟨by omega, by omega⟩) M hM1 hM2
    exact ⟨by rw [if_neg (by decide), if_neg (by decide)]; exact fine_div h12 hM1 hM2, k0, fun k hk => by unfold cond_Raw.f; rw [if_neg (by decide), if_neg (by decide), if_pos rfl, if_neg (by decide), if_neg (by decide)]; exact h k hk⟩
theorem norm_ev (c M : Int) (l : List Int) (K : Int) (hv : condB c M l K = true) : ∃ k0, ∀ k, k0 ≤ k → cond_Normal.f k c M l K = some ((rawOf c M l K).1, (rawOf c M l K).2.1, (rawOf c M l K).2.2.1, (rawOf c M l K).2.2.2.1, (rawOf c M l K).2.2.2.2, 0) := by
  have hM : maxLen = 9223372036854775807 := by decide
  have hl : l.length ≤ 12 := by
    simp only [condB, Bool.and_eq_true] at hv
    exact ((valB_iff l K).1 hv.1).2.1
  obtain ⟨⟨hr1, hr2⟩, k0, h⟩ := rawOf_ev c M l K hv
  refine ⟨k0 + 60, fun k hk => ?_⟩
  unfold cond_Normal.f cond_Make.f
  rw [cvalid c M K (by omega) (by omega), h k (by omega)]
  simp only [Option.bind_some, hv, if_true]
  rw [cvalid _ _ _ (by omega) (by omega)]
  simp only [Option.bind_some]
  by_cases hs : (rawOf c M l K).2.2.2.2 = 0
  · simp [hs, hr2 hs]
  · simp [hs]
theorem norm_any (c M : Int) (l : List Int) (K : Int) (hm : l.length ≤ maxLen) : ∃ r, ∃ k0, ∀ k, k0 ≤ k → cond_Normal.f k c M l K = some r := by
  by_cases hv : condB c M l K = true
  · obtain ⟨k0, h⟩ := norm_ev c M l K hv
    exact ⟨_, k0, h⟩
  · refine ⟨(0, 0, [], 0, 0, 1), l.length + 60, fun k hk => ?_⟩
    unfold cond_Normal.f
    rw [cvalid c M K hm (by omega)]
    simp only [Option.bind_some, hv]
    rfl
/-- What Raw works out a little beyond the limits, too. -/
theorem raw_ev (c M : Int) (l : List Int) (K : Int) (h12 : l.length ≤ 12) (hf : ∀ x ∈ l, -1048576 ≤ x ∧ x ≤ 1048576) (hK : -1073741824 ≤ K ∧ K ≤ 1073741824) (hc : c = 0 ∨ c = 1 ∨ (c = 2 ∧ 1 ≤ M ∧ M ≤ 512)) : ∃ k0, ∀ k, k0 ≤ k → cond_Raw.f k c M l K = some (rawOf c M l K) := by
  unfold rawOf
  rcases hc with rfl | rfl | ⟨rfl, hM1, hM2⟩
  · obtain ⟨k0, h⟩ := ge_ev h12 hf hK M
    exact ⟨k0, fun k hk => by unfold cond_Raw.f; rw [if_pos rfl, if_pos rfl]; exact h k hk⟩
  · obtain ⟨k0, h⟩ := eq_ev h12 hf hK M
    exact ⟨k0, fun k hk => by unfold cond_Raw.f; rw [if_neg (by decide), if_pos rfl, if_neg (by decide), if_pos rfl]; exact h k hk⟩
  · obtain ⟨k0, h⟩ := div_ev h12 hf hK M hM1 hM2
    exact ⟨k0, fun k hk => by unfold cond_Raw.f; rw [if_neg (by decide), if_neg (by decide), if_pos rfl, if_neg (by decide), if_neg (by decide)]; exact h k hk⟩
end Go.Proofs.Ytcakhbhjdpplcaa.Lp
