/- The plain law behind CondOther: exactly one of a condition and its others holds at a point. -/
import Derived.Test.YtcakhbhjdpplcaaLpX
import Derived.Test.YtcakhbhjdpplcaaGn1
namespace Go.Proofs.Ytcakhbhjdpplcaa.Lp
open Go.RowKit Go.Proofs.Ytcakhbhjdpplcaa.Aa Go.Proofs.Ytcakhbhjdpplcaa.Nr Go.Proofs.Ytcakhbhjdpplcaa.Ho Go.Proofs.YtcakhbhjdpplcaaW.PrintWords Go.Proofs.YtcakhbhjdpplcaaW.PrintLast Go.Proofs.Ytcakhbhjdpplcaa.Kc
set_option linter.unusedVariables false
set_option linter.unusedSimpArgs false
def negs (l : List Int) : List Int := l.map fun n => wrap64 (-n)
theorem opp_l0 (K' : Int) (l T : List Int) (h12 : l.length ≤ 12) (hT : T = negs l) : ∀ (d k i : Nat), i ≤ l.length → l.length - i = d → d < k →
    Op.cond_opposite.l0 k l (l.length : Int) (i : Int) (T.take i ++ List.replicate (T.length - i) 0) K' = some (T, K') := by
  have hTl : T.length = l.length := by rw [hT]; simp [negs]
  intro d
  induction d with
  | zero =>
    intro k i h0 hd hk
    obtain ⟨k, rfl⟩ : ∃ m, k = m + 1 := ⟨k - 1, by omega⟩
    simp only [Op.cond_opposite.l0]
    rw [if_neg (by omega), fill_end T i (by omega)]
  | succ d ih =>
    intro k i h0 hd hk
    obtain ⟨k, rfl⟩ : ∃ m, k = m + 1 := ⟨k - 1, by omega⟩
    have hlt : i < l.length := by omega
    have hTi : wrap64 (-l[i]) = T[i]'(by omega) := by subst hT; simp [negs]
    simp only [Op.cond_opposite.l0]
    rw [fill_len T i (by omega), if_pos (by omega), if_pos (by omega), if_pos (by omega), if_pos (by omega), rd_nat l i hlt, w64 (n := (i : Int) + 1) (by omega) (by omega), Int.toNat_natCast, fill_set T i (by omega) _ hTi]
    have := ih k (i + 1) (by omega) (by omega) (by omega)
    rw [Int.natCast_succ] at this
    exact this
theorem opp_f (l : List Int) (K : Int) (h12 : l.length ≤ 12) (k : Nat) (hk : 20 ≤ k) : Op.cond_opposite.f k l K (-1) = some (negs l, wrap64 (-1 - K)) := by
  unfold Op.cond_opposite.f
  rw [if_pos (by omega), if_pos (by omega), Int.toNat_natCast]
  have := opp_l0 (wrap64 (-1 - K)) l (negs l) h12 rfl l.length k 0 (by omega) (by omega) (by omega)
  rw [List.take_zero, List.nil_append, Nat.sub_zero, show (negs l).length = l.length by simp [negs]] at this
  exact this
theorem negs_fit (l : List Int) (hf : ∀ c ∈ l, -1048576 ≤ c ∧ c ≤ 1048576) : ∀ c ∈ negs l, -1048576 ≤ c ∧ c ≤ 1048576 := by
  intro c hc
  obtain ⟨n, hn, rfl⟩ := List.mem_map.1 hc
  have := hf n hn
  rw [w64 (by omega) (by omega)]
  omega
theorem dot_negs : ∀ (l x : List Int), (∀ c ∈ l, -1048576 ≤ c ∧ c ≤ 1048576) → dot (negs l) x = -dot l x
  | [], _, _ => by simp [dot, negs]
  | _ :: _, [], _ => by simp [dot, negs]
  | c :: l, m :: x, hf => by
    have ih := dot_negs l x (fun a h => hf a (List.mem_cons_of_mem _ h))
    have e : negs (c :: l) = wrap64 (-c) :: negs l := rfl
    have hc := hf c List.mem_cons_self
    rw [e]
    simp only [dot]
    rw [w64 (by omega) (by omega), ih, Int.neg_mul]
    omega
def oths (c M : Int) (l : List Int) (K : Int) : List S26 :=
  if c = 0 then [⟨0, 0, ⟨negs l, wrap64 (-1 - K)⟩⟩] else if c = 1 then [⟨0, 0, ⟨l, wrap64 (K - 1)⟩⟩, ⟨0, 0, ⟨negs l, wrap64 (-1 - K)⟩⟩] else (List.range (M - 1).toNat).map (Man.other M l K)
theorem oths_f (c M : Int) (l : List Int) (K : Int) (h12 : l.length ≤ 12) (hc : c = 0 ∨ c = 1 ∨ (c = 2 ∧ 1 ≤ M ∧ M ≤ 512)) (k : Nat) (hk : 20 ≤ k) : Man.cond_others.f k c M l K = some (oths c M l K) := by
  unfold Man.cond_others.f oths
  rw [opp_f l K h12 k hk, Option.bind_some]
  rcases hc with rfl | rfl | ⟨rfl, h1, h2⟩
  · rw [if_pos rfl, if_pos rfl]
  · rw [if_neg (show ¬ (1 : Int) = 0 by decide), if_pos (show (1 : Int) = 1 from rfl), if_neg (show ¬ (1 : Int) = 0 by decide), if_pos (show (1 : Int) = 1 from rfl)]
  · rw [if_neg (show ¬ (2 : Int) = 0 by decide), if_neg (show ¬ (2 : Int) = 1 by decide), if_neg (show ¬ (2 : Int) = 0 by decide), if_neg (show ¬ (2 : Int) = 1 by decide), if_pos (show M ≤ 1000 by omega)]
/-- What a condition of the others is. -/
def Ok (n : Nat) (o : S26) : Prop := o.f2.f0.length = n ∧ (∀ c ∈ o.f2.f0, -1048576 ≤ c ∧ c ≤ 1048576) ∧ (-1073741824 ≤ o.f2.f1 ∧ o.f2.f1 ≤ 1073741824) ∧ ((o.f0 = 0 ∧ o.f1 = 0) ∨ (o.f0 = 2 ∧ 1 ≤ o.f1 ∧ o.f1 ≤ 512))
theorem ok_oths (c M : Int) (l : List Int) (K : Int) (hf : ∀ c ∈ l, -1048576 ≤ c ∧ c ≤ 1048576) (hK : -1048576 ≤ K ∧ K ≤ 1048576) (hc : c = 0 ∨ c = 1 ∨ (c = 2 ∧ 1 ≤ M ∧ M ≤ 512)) : ∀ o ∈ oths c M l K, Ok l.length o := by
  have e1 : wrap64 (-1 - K) = -1 - K := w64 (by omega) (by omega)
  have e2 : wrap64 (K - 1) = K - 1 := w64 (by omega) (by omega)
  have hn : Ok l.length ⟨0, 0, ⟨negs l, wrap64 (-1 - K)⟩⟩ := ⟨by simp [negs], negs_fit l hf, by simp only [e1]; omega, .inl ⟨rfl, rfl⟩⟩
  have hp : Ok l.length ⟨0, 0, ⟨l, wrap64 (K - 1)⟩⟩ := ⟨rfl, hf, by simp only [e2]; omega, .inl ⟨rfl, rfl⟩⟩
  intro o ho
  unfold oths at ho
  rcases hc with rfl | rfl | ⟨rfl, h1, h2⟩
  · rw [if_pos rfl, List.mem_singleton] at ho
    rw [ho]; exact hn
  · rw [if_neg (by decide), if_pos rfl] at ho
    rcases List.mem_cons.1 ho with rfl | ho
    · exact hp
    · rw [List.mem_singleton] at ho
      rw [ho]; exact hn
  · rw [if_neg (by decide), if_neg (by decide)] at ho
    obtain ⟨r, hr, rfl⟩ := List.mem_map.1 ho
    have hr' := List.mem_range.1 hr
    have e3 : wrap64 (K - ((r : Int) + 1)) = K - ((r : Int) + 1) := w64 (by omega) (by omega)
    exact ⟨rfl, hf, by simp only [Man.other, e3]; omega, .inr ⟨rfl, h1, h2⟩⟩
def raw (o : S26) : Int × Int × List Int × Int × Int := rawOf o.f0 o.f1 o.f2.f0 o.f2.f1
def back (r : Int × Int × List Int × Int × Int) : S26 := ⟨r.1, r.2.1, ⟨r.2.2.1, r.2.2.2.1⟩⟩
def okB (r : Int × Int × List Int × Int × Int) : Bool := condB r.1 r.2.1 r.2.2.1 r.2.2.2.1
/-- Whether a condition holds at a point. -/
def hol (x : List Int) (o : S26) : Bool := isv o.f0 o.f1 (o.f2.f1 + dot o.f2.f0 x)
theorem good2_ok {n : Nat} (h12 : n ≤ 12) {o : S26} (h : Ok n o) (x : List Int) : Good2 o.f0 o.f1 o.f2.f0 o.f2.f1 x (raw o) := by
  obtain ⟨a, b, c, d⟩ := h
  unfold raw rawOf
  rcases d with ⟨d1, d2⟩ | ⟨d1, d2, d3⟩
  · rw [d1, d2, if_pos rfl]
    exact good2_ge b c
  · rw [d1, if_neg (by decide), if_neg (by decide)]
    exact good2_div (by omega) d2 d3
theorem make_ev {n : Nat} (h12 : n ≤ 12) {o : S26} (h : Ok n o) : ∃ k0, ∀ k, k0 ≤ k → cond_Make.f k o.f0 o.f1 o.f2.f0 o.f2.f1 = some (if (raw o).2.2.2.2 = 0 then (if okB (raw o) = true then ((raw o).1, (raw o).2.1, (raw o).2.2.1, (raw o).2.2.2.1, (raw o).2.2.2.2, 0) else (0, 0, [], 0, 0, 3)) else ((raw o).1, (raw o).2.1, (raw o).2.2.1, (raw o).2.2.2.1, (raw o).2.2.2.2, 0)) := by
  have hM : maxLen = 9223372036854775807 := by decide
  have hg := good2_ok h12 h []
  obtain ⟨a, b, c, d⟩ := h
  obtain ⟨k0, e⟩ := raw_ev o.f0 o.f1 o.f2.f0 o.f2.f1 (by omega) b c (by omega)
  refine ⟨k0 + 60, fun k hk => ?_⟩
  unfold cond_Make.f
  rw [e k (by omega), Option.bind_some]
  show (if (raw o).2.2.2.2 = 0 then (Aa.cond_Valid.f k (raw o).1 (raw o).2.1 (raw o).2.2.1 (raw o).2.2.2.1).bind _ else _) = _
  by_cases hs : (raw o).2.2.2.2 = 0
  · rw [if_pos hs, if_pos hs]
    have hl : (raw o).2.2.1.length = n := by
      rcases hg with ⟨g, _⟩ | ⟨g, _⟩ | ⟨_, g, _⟩
      · omega
      · omega
      · omega
    rw [cvalid _ _ _ (by omega) (by omega), Option.bind_some]
    unfold okB
    split
    · rfl
    · rfl
  · rw [if_neg hs, if_neg hs]
    rfl
def zero (n : Nat) : S26 := ⟨0, 0, ⟨List.replicate n 0, 0⟩⟩
def negL (n : Nat) : List S26 → List S26 → List S26 × Int
  | acc, [] => if (acc.length : Int) > 400 then ([], 3) else (acc, 0)
  | acc, o :: ys => if (raw o).2.2.2.2 = 0 then (if okB (raw o) = true then negL n (acc ++ [back (raw o)]) ys else ([], 3)) else if (raw o).2.2.2.2 > 0 then negL n (acc ++ [zero n]) ys else negL n acc ys
theorem negL_len (n : Nat) : ∀ ys acc, (negL n acc ys).1.length ≤ acc.length + ys.length
  | [], acc => by
    unfold negL
    split
    · simp
    · simp
  | o :: ys, acc => by
    have h1 := negL_len n ys (acc ++ [back (raw o)])
    have h2 := negL_len n ys (acc ++ [zero n])
    have h3 := negL_len n ys acc
    simp only [List.length_append, List.length_cons, List.length_nil] at h1 h2 h3 ⊢
    unfold negL
    split
    · split
      · omega
      · simp
    · split
      · omega
      · omega
def Vd (n : Nat) (a : S26) : Prop := condB a.f0 a.f1 a.f2.f0 a.f2.f1 = true ∧ a.f2.f0.length = n
theorem vd_zero {n : Nat} (h12 : n ≤ 12) : Vd n (zero n) := by
  have : valB (List.replicate n 0) 0 = true := (valB_iff _ _).2 ⟨fun x hx => by have := List.eq_of_mem_replicate hx; omega, by simpa using h12, by omega, by omega⟩
  exact ⟨by simp [zero, condB, this], by simp [zero]⟩
theorem hol_zero (n : Nat) (x : List Int) : hol x (zero n) = true := by
  have : dot (List.replicate n 0) x = 0 := dot_zero _ _ (fun c hc => List.eq_of_mem_replicate hc)
  simp [hol, zero, isv, this]
theorem negL_spec {n : Nat} (h12 : n ≤ 12) (x : List Int) : ∀ (ys acc xs : List S26), (∀ o ∈ ys, Ok n o) → negL n acc ys = (xs, 0) → (∀ a ∈ acc, Vd n a) → (∀ a ∈ xs, Vd n a) ∧ (xs.filter (hol x)).length = (acc.filter (hol x)).length + (ys.filter (hol x)).length
  | [], acc, xs, _, h, ha => by
    unfold negL at h
    split at h
    · injection h with _ h; omega
    · injection h with h _
      subst h
      exact ⟨ha, by simp⟩
  | o :: ys, acc, xs, ho, h, ha => by
    have hg := good2_ok h12 (ho o List.mem_cons_self) x
    have ho' : ∀ o ∈ ys, Ok n o := fun a h => ho a (List.mem_cons_of_mem _ h)
    have hol_o : isv o.f0 o.f1 (o.f2.f1 + dot o.f2.f0 x) = hol x o := rfl
    have hn := (ho o List.mem_cons_self).1
    unfold negL at h
    unfold Good2 at hg
    rw [hol_o] at hg
    by_cases hs : (raw o).2.2.2.2 = 0
    · rw [if_pos hs] at h
      by_cases hk : okB (raw o) = true
      · rw [if_pos hk] at h
        obtain ⟨hl, hi⟩ : (raw o).2.2.1.length = o.f2.f0.length ∧ isv (raw o).1 (raw o).2.1 ((raw o).2.2.2.1 + dot (raw o).2.2.1 x) = hol x o := by
          rcases hg with ⟨g, _⟩ | ⟨g, _⟩ | ⟨_, g⟩
          · omega
          · omega
          · exact g
        have hb : hol x (back (raw o)) = hol x o := hi
        have ha' : ∀ a ∈ acc ++ [back (raw o)], Vd n a := by
          intro a h
          rcases List.mem_append.1 h with h | h
          · exact ha a h
          · rw [List.mem_singleton] at h
            rw [h]
            exact ⟨hk, by show (raw o).2.2.1.length = n; omega⟩
        obtain ⟨r1, r2⟩ := negL_spec h12 x ys _ xs ho' h ha'
        refine ⟨r1, ?_⟩
        rw [r2, List.filter_append, List.length_append]
        by_cases hp : hol x o = true
        · rw [List.filter_cons_of_pos (l := []) (by rw [hb]; exact hp), List.filter_cons_of_pos hp]; simp; omega
        · rw [List.filter_cons_of_neg (l := []) (by rw [hb]; exact hp), List.filter_cons_of_neg hp]; simp
      · rw [if_neg hk] at h
        injection h with _ h; omega
    · rw [if_neg hs] at h
      rcases hg with ⟨g, gi⟩ | ⟨g, gi⟩ | ⟨g, _⟩
      · rw [if_pos (by omega)] at h
        have ha' : ∀ a ∈ acc ++ [zero n], Vd n a := by
          intro a h
          rcases List.mem_append.1 h with h | h
          · exact ha a h
          · rw [List.mem_singleton] at h
            rw [h]
            exact vd_zero h12
        obtain ⟨r1, r2⟩ := negL_spec h12 x ys _ xs ho' h ha'
        refine ⟨r1, ?_⟩
        rw [r2, List.filter_append, List.length_append, List.filter_cons_of_pos (l := []) (hol_zero n x), List.filter_cons_of_pos gi]
        simp; omega
      · rw [if_neg (by omega)] at h
        obtain ⟨r1, r2⟩ := negL_spec h12 x ys _ xs ho' h ha
        refine ⟨r1, ?_⟩
        rw [r2, List.filter_cons_of_neg (by rw [gi]; exact Bool.false_ne_true)]
      · omega
theorem rd26 (YS : List S26) (i : Nat) (h : i < YS.length) : rd_T26 YS (i : Int) = YS[i] := by
  unfold rd_T26
  rw [Int.toNat_natCast, List.getD_eq_getElem?_getD, List.getElem?_eq_getElem h]
  rfl
theorem neg_l0 {n : Nat} (h12 : n ≤ 12) (kd md K : Int) (l : List Int) (hl : l.length = n) (YS : List S26) (hlen : YS.length ≤ 1000) (hok : ∀ o ∈ YS, Ok n o) : ∀ (d i : Nat) (acc : List S26), i + d = YS.length → acc.length ≤ i → ∃ k0, ∀ k, k0 ≤ k → Gn.cond_Negate.l0 k acc YS (YS.length : Int) (i : Int) kd md l K = some (negL n acc (YS.drop i)) := by
  intro d
  induction d with
  | zero =>
    intro i acc hi ha
    refine ⟨1, fun k hk => ?_⟩
    obtain ⟨k, rfl⟩ : ∃ m, k = m + 1 := ⟨k - 1, by omega⟩
    simp only [Gn.cond_Negate.l0]
    rw [if_neg (by omega), List.drop_of_length_le (by omega)]
    unfold negL
    split
    · rfl
    · rfl
  | succ d ih =>
    intro i acc hi ha
    have hlt : i < YS.length := by omega
    have hO := hok _ (List.getElem_mem hlt)
    obtain ⟨k1, e1⟩ := make_ev h12 hO
    have hg := good2_ok h12 hO []
    obtain ⟨k2, e2⟩ := ih (i + 1) (acc ++ [back (raw YS[i])]) (by omega) (by simp; omega)
    obtain ⟨k3, e3⟩ := ih (i + 1) (acc ++ [zero n]) (by omega) (by simp; omega)
    obtain ⟨k4, e4⟩ := ih (i + 1) acc (by omega) (by omega)
    refine ⟨k1 + k2 + k3 + k4 + 1, fun k hk => ?_⟩
    obtain ⟨k, rfl⟩ : ∃ m, k = m + 1 := ⟨k - 1, by omega⟩
    have f2 := e2 k (by omega)
    have f3 := e3 k (by omega)
    have f4 := e4 k (by omega)
    rw [Int.natCast_succ] at f2 f3 f4
    simp only [Gn.cond_Negate.l0]
    rw [if_pos (show (i : Int) < (YS.length : Int) by omega), if_pos (show (0 : Int) ≤ (i : Int) by omega), if_pos (show (i : Int) < (YS.length : Int) by omega), rd26 YS i hlt, e1 k (by omega), Option.bind_some, w64 (n := (i : Int) + 1) (by omega) (by omega), List.drop_eq_getElem_cons hlt]
    generalize YS[i] = o at *
    unfold negL
    by_cases hs : (raw o).2.2.2.2 = 0
    · rw [if_pos hs, if_pos hs]
      by_cases hk' : okB (raw o) = true
      · rw [if_pos hk', if_pos hk', if_pos rfl, if_neg (show ¬ (raw o).2.2.2.2 > 0 by omega), if_neg (show ¬ (raw o).2.2.2.2 < 0 by omega), if_pos (show acc.length < 2932031007402 by omega)]
        exact f2
      · rw [if_neg hk', if_neg hk', if_neg (show ¬ (3 : Int) = 0 by decide)]
    · rw [if_neg hs, if_neg hs, if_pos rfl]
      rcases hg with ⟨g, gi⟩ | ⟨g, gi⟩ | ⟨g, _⟩
      · have hp : (raw o).2.2.2.2 > 0 := by omega
        rw [if_pos hp, if_pos hp, if_pos (show (0 : Int) ≤ (l.length : Int) by omega), if_pos (show ((l.length : Int)).toNat ≤ 35184372088832 by omega), if_pos (show acc.length < 2932031007402 by omega), Int.toNat_natCast, hl]
        exact f3
      · have hp : ¬ (raw o).2.2.2.2 > 0 := by omega
        rw [if_neg hp, if_neg hp, if_pos (show (raw o).2.2.2.2 < 0 by omega)]
        exact f4
      · omega
end Go.Proofs.Ytcakhbhjdpplcaa.Lp
