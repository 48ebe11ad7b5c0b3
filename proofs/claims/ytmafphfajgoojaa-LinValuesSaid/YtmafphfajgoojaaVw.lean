/- The walk of LinValues: what its code does if the laws of the functions hold. -/
import Derived.Test.YtmafphfajgoojaaVs1
import Derived.Deep.DeepCutAuto
import Derived.WalkMore
import Derived.Deep.CutRange
import Derived.Outline
namespace Go.Proofs.Ytmafphfajgoojaa.Vw
open Go.RowKit Go.Proofs.Ytmafphfajgoojaa Go.Proofs.YtmafphfajgoojaaW.PrintWords Go.Proofs.YtmafphfajgoojaaW.PrintLast Go.Proofs.YtmafphfajgoojaaW.PrintMore
set_option linter.unusedVariables false
set_option linter.unusedSimpArgs false
/-- The three arguments, as they are read, and the two variables that hold the first two. -/
structure St (w0 W : World) (g5 g6 : Nat) (A0 : Option Addr) (c0 : Nat) (l0 : List Int) (a0 : Int) (A1 : Option Addr) (c1 : Nat) (l1 : List Int) (a1 : Int) (A4 : Option Addr) (c4 : Nat) (l4 : List Int) : Prop where
  below : Below w0.heap.size w0 W
  b5 : W.heap[g5]? = some (.cells #[.slice A0 l0.length c0, .int .i64 a0] 24 (0, 0))
  b6 : W.heap[g6]? = some (.cells #[.slice A1 l1.length c1, .int .i64 a1] 24 (0, 0))
  ra : Kd.C (Kd.int .i64) W A0 l0.length l0
  rb : Kd.C (Kd.int .i64) W A1 l1.length l1
  rx : Kd.C (Kd.int .i64) W A4 l4.length l4
section
variable {w0 W W' : World} {g5 g6 : Nat} {A0 A1 A4 : Option Addr} {c0 c1 c4 : Nat} {l0 l1 l4 : List Int} {a0 a1 : Int}
theorem St.step (h : St w0 W g5 g6 A0 c0 l0 a0 A1 c1 l1 a1 A4 c4 l4) (hb : Below W.heap.size W W') : St w0 W' g5 g6 A0 c0 l0 a0 A1 c1 l1 a1 A4 c4 l4 :=
  ⟨below_then h.below h.below.size hb, blk_below h.b5 hb, blk_below h.b6 hb, Kd.C_below h.ra hb, Kd.C_below h.rb hb, Kd.C_below h.rx hb⟩
theorem St.cells (h : St w0 W g5 g6 A0 c0 l0 a0 A1 c1 l1 a1 A4 c4 l4) : W.cell? ⟨g5, 0, none⟩ = some (.slice A0 l0.length c0) ∧ W.cell? ⟨g5, 1, none⟩ = some (.int .i64 a0) ∧ W.cell? ⟨g6, 0, none⟩ = some (.slice A1 l1.length c1) ∧ W.cell? ⟨g6, 1, none⟩ = some (.int .i64 a1) :=
  ⟨(blk_cell h.b5 0).trans rfl, (blk_cell h.b5 1).trans rfl, (blk_cell h.b6 0).trans rfl, (blk_cell h.b6 1).trans rfl⟩
end
/-- u's row is another than v's. -/
def Ap (u v : Value) : Prop := ∀ k, u.ownBlock = some k → some k ≠ v.ownBlock
section
variable {W w1 : World} {base : Nat} {ok : Nat → Prop} {u v v1 : Value} {xs : List Int}
theorem Ap.grow (hD : Ap u v) (h : (Kd.int .i64).R 3 W base ok u xs) (hat : v1.ownBlock = v.ownBlock ∨ ∃ b, v1.ownBlock = some b ∧ W.heap.size ≤ b) : Ap u v1 := by
  intro k hk
  rcases hat with hat | ⟨b, hb, hle⟩
  · rw [hat]; exact hD k hk
  · rw [hb]
    intro he
    injection he with he
    have := Kd.R_lt h k hk
    omega
theorem Ap.elder (h : (Kd.int .i64).R 3 W base ok u xs) (hnew : ∃ b, v.ownBlock = some b ∧ W.heap.size ≤ b) : Ap u v := by
  obtain ⟨b, hb, hle⟩ := hnew
  intro k hk he
  rw [hb] at he
  injection he with he
  have := Kd.R_lt h k hk
  omega
theorem Ap.newer (h : (Kd.int .i64).R 3 W base ok v xs) (hnew : ∃ b, u.ownBlock = some b ∧ W.heap.size ≤ b) : Ap u v := by
  obtain ⟨b, hb, hle⟩ := hnew
  intro k hk he
  rw [hb] at hk
  injection hk with hk
  have := Kd.R_lt h k he.symm
  omega
theorem R_apart (h : (Kd.int .i64).R 3 W base ok u xs) (hg : W.grownBy w1 v.ownBlock) (hD : Ap u v) : (Kd.int .i64).R 3 w1 base (fun _ => True) u xs :=
  Kd.R_mono (Kd.R_grown (Kd.R_tight rfl h) hg (fun k hk => hD k hk.symm)) (fun _ _ => trivial)
theorem R_none (h : (Kd.int .i64).R 3 W base ok u xs) (hg : W.grownBy w1 none) : (Kd.int .i64).R 3 w1 base (fun _ => True) u xs :=
  Kd.R_mono (Kd.R_grown h hg (fun k _ => by simp)) (fun _ _ => trivial)
end
theorem bne_self_f (n : Int) : (n != n) = false := by simp
set_option maxHeartbeats 16000000 in
set_option maxRecDepth 100000 in
theorem values_walk (k : Nat) (A0 : Option Addr) (c0 : Nat) (l0 : List Int) (a0 : Int) (A1 : Option Addr) (c1 : Nat) (l1 : List Int) (a1 kk i : Int) (A4 : Option Addr) (c4 : Nat) (l4 : List Int) (w : World)
    (h0 : Kd.C (Kd.int .i64) w A0 l0.length l0) (hc0 : l0.length ≤ c0) (h1 : Kd.C (Kd.int .i64) w A1 l1.length l1) (hc1 : l1.length ≤ c1) (h4 : Kd.C (Kd.int .i64) w A4 l4.length l4) (hc4 : l4.length ≤ c4)
    (m e n f : Int) (hA : Bs.lin_At.f k l0 a0 l4 = some (m, e)) (hB : Bs.lin_At.f k l1 a1 l4 = some (n, f)) (haw : Bs.headlandlaw02_awake.f k = some true)
    (hAdd : e = 0 → f = 0 → ∃ r1 r2 r3, Ad.lin_Add.f k l0 a0 l1 a1 = some (r1, r2, r3) ∧ (r3 = 0 → Vs.headlandref02_Value.f k r1 r2 l4 = some (wrap64 (m + n))))
    (hSub : e = 0 → f = 0 → ∃ r1 r2 r3, Ad.lin_Sub.f k l0 a0 l1 a1 = some (r1, r2, r3) ∧ (r3 = 0 → Vs.headlandref02_Value.f k r1 r2 l4 = some (wrap64 (m - n))))
    (hScale : e = 0 → f = 0 → ∃ r1 r2 r3, Sc.lin_Scale.f k l0 a0 kk = some (r1, r2, r3) ∧ (r3 = 0 → Vs.headlandref02_Value.f k r1 r2 l4 = some (wrap64 (m * kk))))
    (hPut : e = 0 → f = 0 → ∃ r1 r2 r3, Pu.lin_Put.f k l0 a0 i l1 a1 = some (r1, r2, r3) ∧ (r3 = 0 → 0 ≤ i ∧ i < l4.length ∧ l4.length < 17592186044000 ∧ ∃ v h, Bs.lin_At.f k l0 a0 (l4.set i.toNat n) = some (v, h) ∧ (h = 0 → Vs.headlandref02_Value.f k r1 r2 l4 = some v)))
    (hRoom : e = 0 → f = 0 → ∃ r1 r2 r3, Cr.lin_Room.f k l0 a0 i 1 = some (r1, r2, r3) ∧ (r3 = 0 → 0 ≤ i ∧ i ≤ l4.length ∧ l4.length < 17592186044000 ∧ ∃ s1 s2, Cr.lin_Cut.f k r1 r2 i = some (s1, s2, 0) ∧ Vs.headlandref02_Value.f k r1 r2 (l4.take i.toNat ++ [7] ++ l4.drop i.toNat) = some m ∧ Bs.headlandref02_Same.f k s1 s2 l0 a0 = some true)) :
    Calls Try.prog 8 #[.agg #[.slice A0 l0.length c0, .int .i64 a0], .agg #[.slice A1 l1.length c1, .int .i64 a1], .int .i64 kk, .int .i64 i, .slice A4 l4.length c4] w fun e w' => e = .returned (.bool true) ∧ Below w.heap.size w w' := by
  have H0 := Aside0.mk (And.intro h0 (And.intro h1 h4))
  have HC := Aside0.mk (And.intro hc0 (And.intro hc1 hc4))
  have HA := Aside0.mk hA
  have HBB := Aside0.mk hB
  have HW := Aside0.mk haw
  have HAdd := Aside0.mk hAdd
  have HSub := Aside0.mk hSub
  have HScale := Aside0.mk hScale
  have HPut := Aside0.mk hPut
  have HRoom := Aside0.mk hRoom
  clear h0 h1 h4 hc0 hc1 hc4 hA hB haw hAdd hSub hScale hPut hRoom
  go_enter Try.func8, Try.ntmps8
  go_wp2_with fail
  have S0 : St w ((w.alloc (.cells #[.slice A0 l0.length c0, .int .i64 a0] 24)).alloc (.cells #[.slice A1 l1.length c1, .int .i64 a1] 24)) w.heap.size (w.heap.size + 1) A0 c0 l0 a0 A1 c1 l1 a1 A4 c4 l4 :=
    ⟨below_alloc (below_alloc (Below.refl _ _) _) _, blk_alloc (blk_new _ _) _, by have := blk_new (w.alloc (.cells #[.slice A0 l0.length c0, .int .i64 a0] 24)) (.cells #[.slice A1 l1.length c1, .int .i64 a1] 24); simpa using this,
      Kd.C_below H0.out.1 (below_alloc (below_alloc (Below.refl _ _) _) _), Kd.C_below H0.out.2.1 (below_alloc (below_alloc (Below.refl _ _) _) _), Kd.C_below H0.out.2.2 (below_alloc (below_alloc (Below.refl _ _) _) _)⟩
  (with_reducible refine (Bs.lin_At.calls k A0 c0 l0 a0 A4 c4 l4 m e _ S0.ra HC.out.1 S0.rx HC.out.2.2 HA.out).mono ?_)
  rintro e' w1 ⟨rfl, hb⟩
  have S1 := S0.step hb
  clear S0 hb
  obtain ⟨c50, c51, c60, c61⟩ := S1.cells
  have HS1 := Aside0.mk S1
  clear S1
  go_wp2_with fail
  (with_reducible refine (Bs.lin_At.calls k A1 c1 l1 a1 A4 c4 l4 n f _ HS1.out.rb HC.out.2.1 HS1.out.rx HC.out.2.2 HBB.out).mono ?_)
  rintro e' w2 ⟨rfl, hb⟩
  have S2 := HS1.out.step hb
  clear HS1 hb c50 c51 c60 c61
  obtain ⟨c50, c51, c60, c61⟩ := S2.cells
  have HS2 := Aside0.mk S2
  clear S2
  by_cases he : ¬ (e = 0 ∧ f = 0)
  · have hor : (e != 0) = true ∨ ((e != 0) = false ∧ (f != 0) = true) := by
      by_cases h : e = 0
      · exact .inr ⟨by simp [h], by simp; exact fun h2 => he ⟨h, h2⟩⟩
      · exact .inl (by simp [h])
    clear he
    rcases hor with he | ⟨he, hf⟩
    all_goals
      go_wp2_with fail
      (with_reducible refine (Bs.headlandlaw02_awake.calls k true _ HW.out).mono ?_)
      rintro e' w3 ⟨rfl, hb⟩
      have S3 := HS2.out.step hb
      have HB3 := Aside0.mk S3.below
      clear S3 hb
      go_wp2
      go_ret
      exact ⟨rfl, HB3.out⟩
  · have hef := Classical.not_not.1 he
    have HEF := Aside0.mk hef
    have he0 : (e != 0) = false ∧ (f != 0) = false := ⟨by simp [hef.1], by simp [hef.2]⟩
    clear he hef
    obtain ⟨he, hf⟩ := he0
    go_upto_if 48 with fail
    refine wp_cond_false rfl ?_
    apply wp_skip
    go_step
    go_step
    go_step
    go_cut [] from 15 to 172 (fun wx => St w wx w.heap.size (w.heap.size + 1) A0 c0 l0 a0 A1 c1 l1 a1 A4 c4 l4)
    case first =>
      obtain ⟨r1, r2, r3, ha, hv⟩ := HAdd.out HEF.out.1 HEF.out.2
      have HF := Aside0.mk ha
      have HV := Aside0.mk hv
      clear ha hv
      go_wp2_with fail
      (with_reducible refine (Ad.lin_Add.calls k A0 c0 l0 a0 A1 c1 l1 a1 r1 r2 r3 _ HS2.out.ra HC.out.1 HS2.out.rb HC.out.2.1 HF.out).mono ?_)
      rintro e' w3 ⟨v, rfl, hR, hb⟩
      obtain ⟨A, c, rfl⟩ := Kd.R_slice hR
      have S3 := HS2.out.step hb
      have HS3 := Aside0.mk S3
      have HR := Aside0.mk (Kd.R_reads' hR)
      clear S3 hb hR c50 c51 c60 c61
      by_cases hg : r3 = 0
      · have hv := HV.out hg
        have HV2 := Aside0.mk hv
        clear hv
        have g1 : (r3 == 0) = true := by simp [hg]
        have g2 := bne_self_f (wrap64 (m + n))
        clear hg
        go_wp2_with fail
        (with_reducible refine (Vs.headlandref02_Value.calls k A c r1 r2 A4 c4 l4 _ _ (Kd.C_below HR.out.2.2 (below_alloc (Below.refl _ _) _)) HR.out.2.1 (Kd.C_below HS3.out.rx (below_alloc (Below.refl _ _) _)) HC.out.2.2 HV2.out).mono ?_)
        rintro e' w4 ⟨rfl, hb⟩
        have S4 := (HS3.out.step (below_alloc (Below.refl _ _) _)).step hb
        have HS4 := Aside0.mk S4
        clear S4 hb
        go_wp2_with fail
        go_meet
        case rel => exact HS4.out
      · have g1 : (r3 == 0) = false := by simp [hg]
        clear hg
        go_wp2_with fail
        go_meet
        case rel => exact HS3.out.step (below_alloc (Below.refl _ _) _)
    case rest =>
      clear HS2 c50 c51 c60 c61
      obtain ⟨w2, rfl⟩ : ∃ w_ : World, w_ = wc := ⟨_, rfl⟩
      obtain ⟨c50, c51, c60, c61⟩ := hcut.cells
      have HS2 := Aside0.mk hcut
      clear hcut
      go_step
      go_step
      go_cut [] from 17 to 172 (fun wx => St w wx w.heap.size (w.heap.size + 1) A0 c0 l0 a0 A1 c1 l1 a1 A4 c4 l4)
      case first =>
        obtain ⟨r1, r2, r3, ha, hv⟩ := HSub.out HEF.out.1 HEF.out.2
        have HF := Aside0.mk ha
        have HV := Aside0.mk hv
        clear ha hv
        go_wp2_with fail
        (with_reducible refine (Ad.lin_Sub.calls k A0 c0 l0 a0 A1 c1 l1 a1 r1 r2 r3 _ HS2.out.ra HC.out.1 HS2.out.rb HC.out.2.1 HF.out).mono ?_)
        rintro e' w3 ⟨v, rfl, hR, hb⟩
        obtain ⟨A, c, rfl⟩ := Kd.R_slice hR
        have S3 := HS2.out.step hb
        have HS3 := Aside0.mk S3
        have HR := Aside0.mk (Kd.R_reads' hR)
        clear S3 hb hR c50 c51 c60 c61
        by_cases hg : r3 = 0
        · have hv := HV.out hg
          have HV2 := Aside0.mk hv
          clear hv
          have g1 : (r3 == 0) = true := by simp [hg]
          have g2 := bne_self_f (wrap64 (m - n))
          clear hg
          go_wp2_with fail
          (with_reducible refine (Vs.headlandref02_Value.calls k A c r1 r2 A4 c4 l4 _ _ (Kd.C_below HR.out.2.2 (below_alloc (Below.refl _ _) _)) HR.out.2.1 (Kd.C_below HS3.out.rx (below_alloc (Below.refl _ _) _)) HC.out.2.2 HV2.out).mono ?_)
          rintro e' w4 ⟨rfl, hb⟩
          have S4 := (HS3.out.step (below_alloc (Below.refl _ _) _)).step hb
          have HS4 := Aside0.mk S4
          clear S4 hb
          go_wp2_with fail
          go_meet
          case rel => exact HS4.out
        · have g1 : (r3 == 0) = false := by simp [hg]
          clear hg
          go_wp2_with fail
          go_meet
          case rel => exact HS3.out.step (below_alloc (Below.refl _ _) _)
      case rest =>
        clear HS2 c50 c51 c60 c61
        obtain ⟨w2, rfl⟩ : ∃ w_ : World, w_ = wc := ⟨_, rfl⟩
        obtain ⟨c50, c51, c60, c61⟩ := hcut.cells
        have HS2 := Aside0.mk hcut
        clear hcut
        go_step
        go_step
        go_cut [] from 19 to 172 (fun wx => St w wx w.heap.size (w.heap.size + 1) A0 c0 l0 a0 A1 c1 l1 a1 A4 c4 l4)
        case first =>
          obtain ⟨r1, r2, r3, ha, hv⟩ := HScale.out HEF.out.1 HEF.out.2
          have HF := Aside0.mk ha
          have HV := Aside0.mk hv
          clear ha hv
          go_wp2_with fail
          (with_reducible refine (Sc.lin_Scale.calls k A0 c0 l0 a0 kk r1 r2 r3 _ HS2.out.ra HC.out.1 HF.out).mono ?_)
          rintro e' w3 ⟨v, rfl, hR, hb⟩
          obtain ⟨A, c, rfl⟩ := Kd.R_slice hR
          have S3 := HS2.out.step hb
          have HS3 := Aside0.mk S3
          have HR := Aside0.mk (Kd.R_reads' hR)
          clear S3 hb hR c50 c51 c60 c61
          by_cases hg : r3 = 0
          · have hv := HV.out hg
            have HV2 := Aside0.mk hv
            clear hv
            have g1 : (r3 == 0) = true := by simp [hg]
            have g2 := bne_self_f (wrap64 (m * kk))
            clear hg
            go_wp2_with fail
            (with_reducible refine (Vs.headlandref02_Value.calls k A c r1 r2 A4 c4 l4 _ _ (Kd.C_below HR.out.2.2 (below_alloc (Below.refl _ _) _)) HR.out.2.1 (Kd.C_below HS3.out.rx (below_alloc (Below.refl _ _) _)) HC.out.2.2 HV2.out).mono ?_)
            rintro e' w4 ⟨rfl, hb⟩
            have S4 := (HS3.out.step (below_alloc (Below.refl _ _) _)).step hb
            have HS4 := Aside0.mk S4
            clear S4 hb
            go_wp2_with fail
            go_meet
            case rel => exact HS4.out
          · have g1 : (r3 == 0) = false := by simp [hg]
            clear hg
            go_wp2_with fail
            go_meet
            case rel => exact HS3.out.step (below_alloc (Below.refl _ _) _)
        case rest =>
          clear HS2 c50 c51 c60 c61
          obtain ⟨w2, rfl⟩ : ∃ w_ : World, w_ = wc := ⟨_, rfl⟩
          obtain ⟨c50, c51, c60, c61⟩ := hcut.cells
          have HS2 := Aside0.mk hcut
          clear hcut
          go_step
          go_step
          go_cut [] from 21 to 172 (fun wx => St w wx w.heap.size (w.heap.size + 1) A0 c0 l0 a0 A1 c1 l1 a1 A4 c4 l4)
          case first =>
            obtain ⟨r1, r2, r3, ha, hv⟩ := HPut.out HEF.out.1 HEF.out.2
            have HF := Aside0.mk ha
            have HV := Aside0.mk hv
            clear ha hv
            go_wp2_with fail
            (with_reducible refine (Pu.lin_Put.calls k A0 c0 l0 a0 i A1 c1 l1 a1 r1 r2 r3 _ HS2.out.ra HC.out.1 HS2.out.rb HC.out.2.1 HF.out).mono ?_)
            rintro e' w3 ⟨v, rfl, hR, hb⟩
            obtain ⟨A, c, rfl⟩ := Kd.R_slice hR
            have S3 := HS2.out.step hb
            have HR := Aside0.mk (Kd.R_reads' hR)
            obtain ⟨w4, hw4⟩ : ∃ w4, w4 = w3.alloc (.cells #[.slice A r1.length c, .int .i64 r2] 24) := ⟨_, rfl⟩
            have hb4 : Below w3.heap.size w3 w4 := by rw [hw4]; exact below_alloc (Below.refl _ _) _
            have B21 : w4.heap[w3.heap.size]? = some (.cells #[.slice A r1.length c, .int .i64 r2] 24 (0, 0)) := by rw [hw4]; exact blk_new _ _
            have S4 := S3.step hb4
            have HS4 := Aside0.mk S4
            have HB21 := Aside0.mk B21
            have HR4 := Aside0.mk (Kd.C_below HR.out.2.2 hb4)
            clear S3 S4 hb hR hb4 B21 HS2 c50 c51 c60 c61
            by_cases hg : r3 = 0
            · obtain ⟨i0, i1, i2, v, h, hat, hval⟩ := HV.out hg
              have g1 : (r3 == 0) = true := by simp [hg]
              have HAt := Aside0.mk hat
              have HVal := Aside0.mk hval
              have HI := Aside0.mk (And.intro i0 (And.intro i1 i2))
              clear hg hat hval HV i0 i1 i2
              go_upto_region 16 with fail
              rw [← hw4]
              obtain ⟨c50, c51, c60, c61⟩ := HS4.out.cells
              have HBz := Aside0.mk (Below.refl w4.heap.size w4)
              go_upto_region 17 with (first
                | ((with_reducible refine gate_dst (N := 110) rfl ?_); refine Kd.R_lit (Kd.int .i64) (w0 := w4) w4.heap.size 3 rfl (N := 110) rfl (xs := ([] : List Int)) (inner := []) (ok := fun _ => True) (okp := fun _ => True) ?hr (Reps.none _ _) (fun _ hk => hk) trivial (Below.refl _ _) (Nat.le_refl _) (by simp) ?_; (case hr => first | (go_simp; done) | (go_simp; rfl)); intro v1 w5 ho hb hg hat; have HO := Aside0.mk ho; have HB5 := Aside0.mk hb; clear ho hb hg hat)
                | ((with_reducible refine gate_dst (N := 112) rfl ?_); refine Kd.R_append_rows (Kd.int .i64) (w0 := w4) w4.heap.size rfl (.tmp 110) (.tmp 111) 22 3 (.int .i64 0) 8 rfl Try.underlying22 Man.info3 rfl (by decide) (by omega) v1 [] l4 _ _ _ (fun _ => True) (fun _ => False) rfl rfl HO.out (Kd.C_below HS4.out.rx HB5.out) (fun _ _ h => h) (fun _ h => h.elim) (fun _ _ => trivial) HB5.out HB5.out.size (by have := HI.out.2.2; simp; omega) ?_; intro v2 w6 ho hb hg hat; have HO2 := Aside0.mk ho; have HB6 := Aside0.mk hb; clear ho hb hg hat HO HB5))
              obtain ⟨g, cy, rfl⟩ : ∃ g cy, v2 = .slice (some ⟨g, 0, none⟩) ([] ++ l4).length cy := by
                rcases (Kd.own_of_R HO2.out).2 with ⟨_, h0⟩ | ⟨g, cap, cur, hv, _⟩
                · have := HI.out; simp at h0; simp [h0] at this; omega
                · exact ⟨g, cap, hv⟩
              have HP := Aside0.mk (Kd.R_putg HO2.out i n)
              obtain ⟨cur, kb, kz⟩ : ∃ cur : Array Value, w6.heap[g]? = some (.cells cur 3 (0, 0)) ∧ i.toNat < cur.size := by
                obtain ⟨cur, k1, k2, k3, k4, k5, k6, k7, k8⟩ := Man.block_of_R HO2.out
                have := HI.out
                simp at k5
                exact ⟨cur, k1, by omega⟩
              obtain ⟨cv, hc7⟩ : ∃ cv, w6.cell? ⟨g, i.toNat, none⟩ = some cv := ⟨_, by rw [blk_cell kb, Array.getElem?_eq_getElem kz]⟩
              have hf7 : w6.frozen? ⟨g, i.toNat, none⟩ = false := blk_frozen kb _
              have hi0 : 0 ≤ i := HI.out.1
              have hi1 : i < (l4.length : Int) := HI.out.2.1
              have hi2 : (decide (0 ≤ i)) = true := decide_eq_true hi0
              have hi3 : (decide (i < (l4.length : Int))) = true := decide_eq_true hi1
              clear kb kz
              obtain ⟨w7, hw7⟩ : ∃ w7, w7 = w6.setCell ⟨g, i.toNat, none⟩ (.int .i64 n) := ⟨_, rfl⟩
              go_upto_region 18 with fail
              rw [← hw7]
              have hb7 : Below w4.heap.size w4 w7 := by rw [hw7]; exact HB6.out.setCell (Kd.R_base HO2.out g rfl) _
              have hy7 : Kd.R (Kd.int .i64) 3 w7 w4.heap.size (fun _ => True) (.slice (some ⟨g, 0, none⟩) l4.length cy) (l4.set i.toNat n) := by rw [hw7]; exact HP.out.1
              have S7 := HS4.out.step hb7
              have HS7 := Aside0.mk S7
              have HB21' := Aside0.mk (blk_below HB21.out hb7)
              have HR7 := Aside0.mk (Kd.C_below HR4.out hb7)
              have hcy := (Kd.R_reads' hy7).2.1
              have hC7 := (Kd.R_reads' hy7).2.2
              have hcall := Bs.lin_At.calls k A0 c0 l0 a0 (some ⟨g, 0, none⟩) cy (l4.set i.toNat n) v h w7 S7.ra HC.out.1 hC7 (by rw [List.length_set]; exact hcy) HAt.out
              rw [List.length_set] at hcall
              have HCall := Aside0.mk hcall
              clear hcall hb7 hy7 S7 hcy hC7 hw7 hc7 hf7 hi0 hi1 hi2 hi3 c50 c51 c60 c61 HB6 HP HO2 HBz HB21 HR4 HS4
              obtain ⟨c50, c51, c60, c61⟩ := HS7.out.cells
              go_wp2_with fail
              refine HCall.out.mono ?_
              rintro e' w8 ⟨rfl, hb⟩
              have HS8 := Aside0.mk (HS7.out.step hb)
              have b21 := blk_below HB21'.out hb
              have HR8 := Aside0.mk (Kd.C_below HR7.out hb)
              have d0 : w8.cell? ⟨w3.heap.size, 0, none⟩ = some (.slice A r1.length c) := (blk_cell b21 0).trans rfl
              have d1 : w8.cell? ⟨w3.heap.size, 1, none⟩ = some (.int .i64 r2) := (blk_cell b21 1).trans rfl
              clear hb b21 HB21' HR7 HS7 HCall c50 c51 c60 c61
              by_cases hh : h = 0
              · have hv := HVal.out hh
                have HV2 := Aside0.mk hv
                have g1 : (h == 0) = true := by simp [hh]
                have g2 := bne_self_f v
                clear hh hv HVal
                go_wp2_with fail
                (with_reducible refine (Vs.headlandref02_Value.calls k A c r1 r2 A4 c4 l4 _ _ HR8.out HR.out.2.1 HS8.out.rx HC.out.2.2 HV2.out).mono ?_)
                rintro e' w9 ⟨rfl, hb⟩
                have HS9 := Aside0.mk (HS8.out.step hb)
                clear hb
                go_wp2_with fail
                go_meet
                case rel => exact HS9.out
              · have g1 : (h == 0) = false := by simp [hh]
                clear hh
                go_wp2_with fail
                go_meet
                case rel => exact HS8.out
            · have g1 : (r3 == 0) = false := by simp [hg]
              clear hg
              subst hw4
              go_wp2_with fail
              go_meet
              case rel => exact HS4.out
          case rest =>
            clear HS2 c50 c51 c60 c61
            obtain ⟨w2, rfl⟩ : ∃ w_ : World, w_ = wc := ⟨_, rfl⟩
            obtain ⟨c50, c51, c60, c61⟩ := hcut.cells
            have HS2 := Aside0.mk hcut
            clear hcut
            go_step
            go_step
            go_cut [] from 26 to 171 (fun wx => St w wx w.heap.size (w.heap.size + 1) A0 c0 l0 a0 A1 c1 l1 a1 A4 c4 l4)
            case first =>
              obtain ⟨r1, r2, r3, ha, hv⟩ := HRoom.out HEF.out.1 HEF.out.2
              have HF := Aside0.mk ha
              have HV := Aside0.mk hv
              clear ha hv
              go_wp2_with fail
              (with_reducible refine (Cr.lin_Room.calls k A0 c0 l0 a0 i 1 r1 r2 r3 _ HS2.out.ra HC.out.1 HF.out).mono ?_)
              rintro e' w3 ⟨v, rfl, hR, hb⟩
              obtain ⟨A, c, rfl⟩ := Kd.R_slice hR
              have S3 := HS2.out.step hb
              have HR := Aside0.mk (Kd.R_reads' hR)
              obtain ⟨w4, hw4⟩ : ∃ w4, w4 = w3.alloc (.cells #[.slice A r1.length c, .int .i64 r2] 24) := ⟨_, rfl⟩
              have hb4 : Below w3.heap.size w3 w4 := by rw [hw4]; exact below_alloc (Below.refl _ _) _
              have B26 : w4.heap[w3.heap.size]? = some (.cells #[.slice A r1.length c, .int .i64 r2] 24 (0, 0)) := by rw [hw4]; exact blk_new _ _
              have S4 := S3.step hb4
              have HS4 := Aside0.mk S4
              have HB26 := Aside0.mk B26
              have HR4 := Aside0.mk (Kd.C_below HR.out.2.2 hb4)
              clear S3 S4 hb hR hb4 B26 HS2 c50 c51 c60 c61
              by_cases hg : r3 = 0
              · obtain ⟨i0, i1, i2, s1, s2, hcut, hval, hsame⟩ := HV.out hg
                have g1 : (r3 == 0) = true := by simp [hg]
                have HCut := Aside0.mk hcut
                have HVal := Aside0.mk hval
                have HSame := Aside0.mk hsame
                have HI := Aside0.mk (And.intro i0 (And.intro i1 i2))
                clear hg hcut hval hsame HV i0 i1 i2
                go_upto_region 23 with fail
                rw [← hw4]
                clear hw4
                go_cut [28] from 140 to 150 (fun v28 wx => ∃ Ay ny cy, v28 = .slice Ay ny cy ∧ ny = (l4.take i.toNat ++ [7] ++ l4.drop i.toNat).length ∧ (l4.take i.toNat ++ [7] ++ l4.drop i.toNat).length ≤ cy ∧ Kd.C (Kd.int .i64) wx Ay (l4.take i.toNat ++ [7] ++ l4.drop i.toNat).length (l4.take i.toNat ++ [7] ++ l4.drop i.toNat) ∧ Below w4.heap.size w4 wx)
                case first =>
                  obtain ⟨i0333, hi0333, _, hsz333, _⟩ := info_parts Man.info3
                  obtain ⟨hcut333, hA333, hC333⟩ := print_take_of (P := Try.prog) (Value.int .i64) 0 22 3 .i64 Try.underlying22 hi0333 hsz333 A4 c4 l4 i HI.out.1 HI.out.2.1 HC.out.2.2
                  obtain ⟨A334, hcut334, hA334, hC334⟩ := print_drop_of (P := Try.prog) (Value.int .i64) 0 22 3 .i64 Try.underlying22 hi0333 hsz333 A4 c4 l4 i HI.out.1 HI.out.2.1 HC.out.2.2
                  have HRt0 := Aside0.mk (Kd.C_of_reads (h1 := fun _ => rfl) (hA333 _ (Kd.reads_of_C HS4.out.rx)))
                  have HRd0 := Aside0.mk (Kd.C_of_reads (h1 := fun _ => rfl) (hA334 _ (Kd.reads_of_C HS4.out.rx)))
                  clear hA333 hC333 hA334 hC334 hi0333 hsz333
                  refine start_ (n := 12) (S := fun w' => True) (ds := []) #[false, false, false, false, false, false, false, false, false, false, false, false] (by kernel_rfl) rfl rfl trivial (fun hHeld => ?_)
                  obtain ⟨ws, hws⟩ : ∃ ws, ws = w4.drew := ⟨_, rfl⟩
                  rw [← hws]
                  have hbs : Aside0 (Below w4.heap.size w4 ws) := ⟨by rw [hws]; exact below_drew (Below.refl _ _)⟩
                  have HRt : Aside0 (Kd.C (Kd.int .i64) ws A4 (min i.toNat l4.length) (l4.take i.toNat)) := ⟨by have h := Kd.C_below HRt0.out hbs.out; rw [List.length_take] at h; exact h⟩
                  have HRd : Aside0 (Kd.C (Kd.int .i64) ws A334 (l4.length - i.toNat) (l4.drop i.toNat)) := ⟨by have h := Kd.C_below HRd0.out hbs.out; rw [List.length_drop] at h; exact h⟩
                  have HB := Aside0.mk (Below.refl ws.heap.size ws)
                  clear hws HRt0 HRd0
                  refine pure_ (i := 1) (N := some 141) (v := ?_) (a' := ?_) #[false, true, false, false, false, false, false, false, false, false, false, false] rfl rfl (by kernel_rfl) (fun _ _ _ h => h) (Or.inl ⟨by rfl, ?_⟩) ?_ ?_
                  rotate_left
                  · intro w'
                    go_simp
                    with_reducible rfl
                  rotate_left
                  · simp only [Act.put, List.setIfInBounds_toArray, List.set_cons_zero, List.set_cons_succ, i64_w, i32_w]
                    rfl
                  refine pure_ (i := 2) (N := some 142) (v := ?_) (a' := ?_) #[false, true, true, false, false, false, false, false, false, false, false, false] rfl rfl (by kernel_rfl) (fun _ _ _ h => h) (Or.inl ⟨by rfl, ?_⟩) ?_ ?_
                  rotate_left
                  · intro w'
                    go_simp
                    with_reducible rfl
                  rotate_left
                  · simp only [Act.put, List.setIfInBounds_toArray, List.set_cons_zero, List.set_cons_succ, i64_w, i32_w]
                    rfl
                  refine pure_ (i := 3) (N := some 143) (v := ?_) (a' := ?_) #[false, true, true, true, false, false, false, false, false, false, false, false] rfl rfl (by kernel_rfl) (fun _ _ _ h => h) (Or.inl ⟨by rfl, ?_⟩) ?_ ?_
                  rotate_left
                  · intro w'
                    go_simp
                    with_reducible rfl
                  rotate_left
                  · simp only [Act.put, List.setIfInBounds_toArray, List.set_cons_zero, List.set_cons_succ, i64_w, i32_w]
                    rfl
                  refine pure_ (i := 7) (N := some 147) (v := ?_) (a' := ?_) #[false, true, true, true, false, false, false, true, false, false, false, false] rfl rfl (by kernel_rfl) (fun _ _ _ h => h) (Or.inl ⟨by rfl, ?_⟩) ?_ ?_
                  rotate_left
                  · intro w'
                    go_simp
                    with_reducible rfl
                  rotate_left
                  · simp only [Act.put, List.setIfInBounds_toArray, List.set_cons_zero, List.set_cons_succ, i64_w, i32_w]
                    rfl
                  refine pure_ (i := 8) (N := some 148) (v := ?_) (a' := ?_) #[false, true, true, true, false, false, false, true, true, false, false, false] rfl rfl (by kernel_rfl) (fun _ _ _ h => h) (Or.inl ⟨by rfl, ?_⟩) ?_ ?_
                  rotate_left
                  · intro w'
                    go_simp
                    with_reducible rfl
                  rotate_left
                  · simp only [Act.put, List.setIfInBounds_toArray, List.set_cons_zero, List.set_cons_succ, i64_w, i32_w]
                    rfl
                  refine pure_ (i := 9) (N := some 149) (v := ?_) (a' := ?_) #[false, true, true, true, false, false, false, true, true, true, false, false] rfl rfl (by kernel_rfl) (fun _ _ _ h => h) (Or.inl ⟨by rfl, ?_⟩) ?_ ?_
                  rotate_left
                  · intro w'
                    go_simp
                    with_reducible rfl
                  rotate_left
                  · simp only [Act.put, List.setIfInBounds_toArray, List.set_cons_zero, List.set_cons_succ, i64_w, i32_w]
                    rfl
                  refine two_ (i := 0) (j := 5) (Ni := some 140) (Nj := some 145) #[true, true, true, true, false, false, false, true, true, true, false, false] #[false, true, true, true, false, true, false, true, true, true, false, false] rfl rfl rfl rfl (by kernel_rfl) (by decide) (by decide) (fun K hK => ?_) (fun K hK => ?_)
                  · skip
                    refine Kd.R_lit_step (Kd.int .i64) (w0 := ws) ws.heap.size 3 ?hg (N := 140) ?hd (xs := ([] : List Int)) (inner := []) (ok := fun _ => True) (okp := fun _ => True) ?hr ?hp (fun _ hk => hk) trivial HB.out HB.out.size (by simp) ?_; (case hd => rfl); (case hg => rfl); (case hr => first | (go_simp; done) | (go_simp; rfl)); (case hp => exact (Reps.none _ _))
                    intro v140 wn ho hb hgr hnw
                    have HO0 := Aside0.mk ho
                    clear HB
                    have HB := Aside0.mk hb
                    clear ho hb hgr hnw
                    refine hK.out _ _ trivial (fun hHeld => ?_)
                    clear hK K
                    refine norm_ (a' := ?_) ?_ ?_
                    rotate_left
                    · show Act.put _ (some 140) _ = _
                      simp only [Act.put, List.setIfInBounds_toArray, List.set_cons_zero, List.set_cons_succ, i64_w, i32_w]
                      rfl
                    refine two_ (i := 4) (j := 5) (Ni := some 144) (Nj := some 145) #[true, true, true, true, true, false, false, true, true, true, false, false] #[true, true, true, true, false, true, false, true, true, true, false, false] rfl rfl rfl rfl (by kernel_rfl) (by decide) (by decide) (fun K hK => ?_) (fun K hK => ?_)
                    · skip
                      refine Kd.R_append_rows_step (Kd.int .i64) (w0 := ws) ws.heap.size (by rfl) (.tmp 140) (.tmp 143) 22 3 (.int .i64 0) 8 rfl Try.underlying22 Man.info3 rfl (by decide) (by omega) v140 ([] : List Int) (l4.take i.toNat) _ _ _ (fun _ => True) (fun _ => False) rfl rfl HO0.out (Kd.C_below HRt.out HB.out) (fun _ _ h => h) (fun _ h => h.elim) (fun _ _ => trivial) HB.out HB.out.size (by have := HI.out.2.2; have := HI.out.1; have := HI.out.2.1; simp; omega) ?_
                      intro v144 wn ho hb hgr hat
                      have HO4 := Aside0.mk ho
                      clear HB HO0
                      have HB := Aside0.mk hb
                      clear ho hb hgr hat
                      refine hK.out _ _ trivial (fun hHeld => ?_)
                      clear hK K
                      refine norm_ (a' := ?_) ?_ ?_
                      rotate_left
                      · show Act.put _ (some 144) _ = _
                        simp only [Act.put, List.setIfInBounds_toArray, List.set_cons_zero, List.set_cons_succ, i64_w, i32_w]
                        rfl
                      refine one_ (i := 5) (N := some 145) #[true, true, true, true, true, true, false, true, true, true, false, false] rfl rfl (by kernel_rfl) (by decide) (fun K hK => ?_)
                      refine Kd.R_lit_step (Kd.int .i64) (w0 := ws) ws.heap.size 3 ?hg (N := 145) ?hd (xs := ([7] : List Int)) (inner := [.int .i64 7]) (ok := fun _ => True) (okp := fun _ => True) ?hr ?hp (fun _ hk => hk) trivial HB.out HB.out.size (by simp) ?_; (case hd => rfl); (case hg => rfl); (case hr => first | (go_simp; done) | (go_simp; rfl)); (case hp => exact (Reps.one (show Kd.M (Kd.int .i64) _ _ _ 7 [.int .i64 7] from rfl) (Reps.none _ _)))
                      intro v145 wn ho hb hgr hnw
                      have HO5 := Aside0.mk ho
                      have hap := Ap.newer HO4.out hnw
                      have h0' := R_none HO4.out hgr
                      clear HO4
                      have HO4 := Aside0.mk h0'
                      have HD := Aside0.mk hap
                      clear h0' hap
                      clear HB
                      have HB := Aside0.mk hb
                      clear ho hb hgr hnw
                      refine hK.out _ _ trivial (fun hHeld => ?_)
                      clear hK K
                      refine norm_ (a' := ?_) ?_ ?_
                      rotate_left
                      · show Act.put _ (some 145) _ = _
                        simp only [Act.put, List.setIfInBounds_toArray, List.set_cons_zero, List.set_cons_succ, i64_w, i32_w]
                        rfl
                      obtain ⟨A5, c5, rfl⟩ := Kd.R_slice HO5.out
                      refine one_ (i := 6) (N := some 146) #[true, true, true, true, true, true, true, true, true, true, false, false] rfl rfl (by kernel_rfl) (by decide) (fun K hK => ?_)
                      refine Kd.R_append_rows_step (Kd.int .i64) (w0 := ws) ws.heap.size (by rfl) (.tmp 144) (.tmp 145) 22 3 (.int .i64 0) 8 rfl Try.underlying22 Man.info3 rfl (by decide) (by omega) v144 ([] ++ l4.take i.toNat) ([7] : List Int) _ _ _ (fun _ => True) (fun _ => False) rfl rfl HO4.out (Kd.R_reads' HO5.out).2.2 (fun _ _ h => h) (fun _ h => h.elim) (fun _ _ => trivial) HB.out HB.out.size (by have := HI.out.2.2; have := HI.out.1; have := HI.out.2.1; simp; omega) ?_
                      intro v146 wn ho hb hgr hat
                      have HO6 := Aside0.mk ho
                      clear HB HO4 HO5 HD
                      have HB := Aside0.mk hb
                      clear ho hb hgr hat
                      refine hK.out _ _ trivial (fun hHeld => ?_)
                      clear hK K
                      refine norm_ (a' := ?_) ?_ ?_
                      rotate_left
                      · show Act.put _ (some 146) _ = _
                        simp only [Act.put, List.setIfInBounds_toArray, List.set_cons_zero, List.set_cons_succ, i64_w, i32_w]
                        rfl
                      refine one_ (i := 10) (N := some 150) #[true, true, true, true, true, true, true, true, true, true, true, false] rfl rfl (by kernel_rfl) (by decide) (fun K hK => ?_)
                      refine Kd.R_append_rows_step (Kd.int .i64) (w0 := ws) ws.heap.size (by rfl) (.tmp 146) (.tmp 149) 22 3 (.int .i64 0) 8 rfl Try.underlying22 Man.info3 rfl (by decide) (by omega) v146 ([] ++ l4.take i.toNat ++ [7]) (l4.drop i.toNat) _ _ _ (fun _ => True) (fun _ => False) rfl rfl HO6.out (Kd.C_below HRd.out HB.out) (fun _ _ h => h) (fun _ h => h.elim) (fun _ _ => trivial) HB.out HB.out.size (by have := HI.out.2.2; have := HI.out.1; have := HI.out.2.1; simp; omega) ?_
                      intro v150 wn ho hb hgr hat
                      rw [List.nil_append] at ho
                      have HO7 := Aside0.mk ho
                      clear HB HO6
                      have HB := Aside0.mk hb
                      clear ho hb hgr hat
                      refine hK.out _ _ trivial (fun hHeld => ?_)
                      clear hK K
                      refine norm_ (a' := ?_) ?_ ?_
                      rotate_left
                      · show Act.put _ (some 150) _ = _
                        simp only [Act.put, List.setIfInBounds_toArray, List.set_cons_zero, List.set_cons_succ, i64_w, i32_w]
                        rfl
                      refine pure_ (i := 11) (N := some 28) (v := ?_) (a' := ?_) #[true, true, true, true, true, true, true, true, true, true, true, true] rfl rfl (by kernel_rfl) (fun _ _ _ h => h) (Or.inl ⟨by rfl, ?_⟩) ?_ ?_
                      rotate_left
                      · intro w'
                        go_simp
                        with_reducible rfl
                      rotate_left
                      · simp only [Act.put, List.setIfInBounds_toArray, List.set_cons_zero, List.set_cons_succ, i64_w, i32_w]
                        rfl
                      refine done_ (by kernel_rfl) ?_
                      obtain ⟨Ay, cy, rfl⟩ := Kd.R_slice HO7.out
                      have hy := Kd.R_reads' HO7.out
                      have hbw := below_then hbs.out hbs.out.size HB.out
                      have HY := Aside0.mk (And.intro hy hbw)
                      clear hy hbw
                      go_wp2_with fail
                      go_meet
                      case rel => exact ⟨Ay, _, cy, rfl, by simp, HY.out.1.2.1, HY.out.1.2.2, HY.out.2⟩
                    · skip
                      refine Kd.R_lit_step (Kd.int .i64) (w0 := ws) ws.heap.size 3 ?hg (N := 145) ?hd (xs := ([7] : List Int)) (inner := [.int .i64 7]) (ok := fun _ => True) (okp := fun _ => True) ?hr ?hp (fun _ hk => hk) trivial HB.out HB.out.size (by simp) ?_; (case hd => rfl); (case hg => rfl); (case hr => first | (go_simp; done) | (go_simp; rfl)); (case hp => exact (Reps.one (show Kd.M (Kd.int .i64) _ _ _ 7 [.int .i64 7] from rfl) (Reps.none _ _)))
                      intro v145 wn ho hb hgr hnw
                      have HO5 := Aside0.mk ho
                      have hap := Ap.newer HO0.out hnw
                      have h0' := R_none HO0.out hgr
                      clear HO0
                      have HO0 := Aside0.mk h0'
                      have HD := Aside0.mk hap
                      clear h0' hap
                      clear HB
                      have HB := Aside0.mk hb
                      clear ho hb hgr hnw
                      refine hK.out _ _ trivial (fun hHeld => ?_)
                      clear hK K
                      refine norm_ (a' := ?_) ?_ ?_
                      rotate_left
                      · show Act.put _ (some 145) _ = _
                        simp only [Act.put, List.setIfInBounds_toArray, List.set_cons_zero, List.set_cons_succ, i64_w, i32_w]
                        rfl
                      refine one_ (i := 4) (N := some 144) #[true, true, true, true, true, true, false, true, true, true, false, false] rfl rfl (by kernel_rfl) (by decide) (fun K hK => ?_)
                      refine Kd.R_append_rows_step (Kd.int .i64) (w0 := ws) ws.heap.size (by rfl) (.tmp 140) (.tmp 143) 22 3 (.int .i64 0) 8 rfl Try.underlying22 Man.info3 rfl (by decide) (by omega) v140 ([] : List Int) (l4.take i.toNat) _ _ _ (fun _ => True) (fun _ => False) rfl rfl HO0.out (Kd.C_below HRt.out HB.out) (fun _ _ h => h) (fun _ h => h.elim) (fun _ _ => trivial) HB.out HB.out.size (by have := HI.out.2.2; have := HI.out.1; have := HI.out.2.1; simp; omega) ?_
                      intro v144 wn ho hb hgr hat
                      have HO4 := Aside0.mk ho
                      have hap := Ap.grow HD.out HO5.out hat
                      have h5' := R_apart HO5.out hgr HD.out
                      clear HO5 HD
                      have HO5 := Aside0.mk h5'
                      have HD := Aside0.mk hap
                      clear h5' hap
                      clear HB HO0
                      have HB := Aside0.mk hb
                      clear ho hb hgr hat
                      refine hK.out _ _ trivial (fun hHeld => ?_)
                      clear hK K
                      refine norm_ (a' := ?_) ?_ ?_
                      rotate_left
                      · show Act.put _ (some 144) _ = _
                        simp only [Act.put, List.setIfInBounds_toArray, List.set_cons_zero, List.set_cons_succ, i64_w, i32_w]
                        rfl
                      obtain ⟨A5, c5, rfl⟩ := Kd.R_slice HO5.out
                      refine one_ (i := 6) (N := some 146) #[true, true, true, true, true, true, true, true, true, true, false, false] rfl rfl (by kernel_rfl) (by decide) (fun K hK => ?_)
                      refine Kd.R_append_rows_step (Kd.int .i64) (w0 := ws) ws.heap.size (by rfl) (.tmp 144) (.tmp 145) 22 3 (.int .i64 0) 8 rfl Try.underlying22 Man.info3 rfl (by decide) (by omega) v144 ([] ++ l4.take i.toNat) ([7] : List Int) _ _ _ (fun _ => True) (fun _ => False) rfl rfl HO4.out (Kd.R_reads' HO5.out).2.2 (fun _ _ h => h) (fun _ h => h.elim) (fun _ _ => trivial) HB.out HB.out.size (by have := HI.out.2.2; have := HI.out.1; have := HI.out.2.1; simp; omega) ?_
                      intro v146 wn ho hb hgr hat
                      have HO6 := Aside0.mk ho
                      clear HB HO4 HO5 HD
                      have HB := Aside0.mk hb
                      clear ho hb hgr hat
                      refine hK.out _ _ trivial (fun hHeld => ?_)
                      clear hK K
                      refine norm_ (a' := ?_) ?_ ?_
                      rotate_left
                      · show Act.put _ (some 146) _ = _
                        simp only [Act.put, List.setIfInBounds_toArray, List.set_cons_zero, List.set_cons_succ, i64_w, i32_w]
                        rfl
                      refine one_ (i := 10) (N := some 150) #[true, true, true, true, true, true, true, true, true, true, true, false] rfl rfl (by kernel_rfl) (by decide) (fun K hK => ?_)
                      refine Kd.R_append_rows_step (Kd.int .i64) (w0 := ws) ws.heap.size (by rfl) (.tmp 146) (.tmp 149) 22 3 (.int .i64 0) 8 rfl Try.underlying22 Man.info3 rfl (by decide) (by omega) v146 ([] ++ l4.take i.toNat ++ [7]) (l4.drop i.toNat) _ _ _ (fun _ => True) (fun _ => False) rfl rfl HO6.out (Kd.C_below HRd.out HB.out) (fun _ _ h => h) (fun _ h => h.elim) (fun _ _ => trivial) HB.out HB.out.size (by have := HI.out.2.2; have := HI.out.1; have := HI.out.2.1; simp; omega) ?_
                      intro v150 wn ho hb hgr hat
                      rw [List.nil_append] at ho
                      have HO7 := Aside0.mk ho
                      clear HB HO6
                      have HB := Aside0.mk hb
                      clear ho hb hgr hat
                      refine hK.out _ _ trivial (fun hHeld => ?_)
                      clear hK K
                      refine norm_ (a' := ?_) ?_ ?_
                      rotate_left
                      · show Act.put _ (some 150) _ = _
                        simp only [Act.put, List.setIfInBounds_toArray, List.set_cons_zero, List.set_cons_succ, i64_w, i32_w]
                        rfl
                      refine pure_ (i := 11) (N := some 28) (v := ?_) (a' := ?_) #[true, true, true, true, true, true, true, true, true, true, true, true] rfl rfl (by kernel_rfl) (fun _ _ _ h => h) (Or.inl ⟨by rfl, ?_⟩) ?_ ?_
                      rotate_left
                      · intro w'
                        go_simp
                        with_reducible rfl
                      rotate_left
                      · simp only [Act.put, List.setIfInBounds_toArray, List.set_cons_zero, List.set_cons_succ, i64_w, i32_w]
                        rfl
                      refine done_ (by kernel_rfl) ?_
                      obtain ⟨Ay, cy, rfl⟩ := Kd.R_slice HO7.out
                      have hy := Kd.R_reads' HO7.out
                      have hbw := below_then hbs.out hbs.out.size HB.out
                      have HY := Aside0.mk (And.intro hy hbw)
                      clear hy hbw
                      go_wp2_with fail
                      go_meet
                      case rel => exact ⟨Ay, _, cy, rfl, by simp, HY.out.1.2.1, HY.out.1.2.2, HY.out.2⟩
                  · skip
                    refine Kd.R_lit_step (Kd.int .i64) (w0 := ws) ws.heap.size 3 ?hg (N := 145) ?hd (xs := ([7] : List Int)) (inner := [.int .i64 7]) (ok := fun _ => True) (okp := fun _ => True) ?hr ?hp (fun _ hk => hk) trivial HB.out HB.out.size (by simp) ?_; (case hd => rfl); (case hg => rfl); (case hr => first | (go_simp; done) | (go_simp; rfl)); (case hp => exact (Reps.one (show Kd.M (Kd.int .i64) _ _ _ 7 [.int .i64 7] from rfl) (Reps.none _ _)))
                    intro v145 wn ho hb hgr hnw
                    have HO5 := Aside0.mk ho
                    clear HB
                    have HB := Aside0.mk hb
                    clear ho hb hgr hnw
                    refine hK.out _ _ trivial (fun hHeld => ?_)
                    clear hK K
                    refine norm_ (a' := ?_) ?_ ?_
                    rotate_left
                    · show Act.put _ (some 145) _ = _
                      simp only [Act.put, List.setIfInBounds_toArray, List.set_cons_zero, List.set_cons_succ, i64_w, i32_w]
                      rfl
                    refine one_ (i := 0) (N := some 140) #[true, true, true, true, false, true, false, true, true, true, false, false] rfl rfl (by kernel_rfl) (by decide) (fun K hK => ?_)
                    refine Kd.R_lit_step (Kd.int .i64) (w0 := ws) ws.heap.size 3 ?hg (N := 140) ?hd (xs := ([] : List Int)) (inner := []) (ok := fun _ => True) (okp := fun _ => True) ?hr ?hp (fun _ hk => hk) trivial HB.out HB.out.size (by simp) ?_; (case hd => rfl); (case hg => rfl); (case hr => first | (go_simp; done) | (go_simp; rfl)); (case hp => exact (Reps.none _ _))
                    intro v140 wn ho hb hgr hnw
                    have HO0 := Aside0.mk ho
                    have hap := Ap.elder HO5.out hnw
                    have h5' := R_none HO5.out hgr
                    clear HO5
                    have HO5 := Aside0.mk h5'
                    have HD := Aside0.mk hap
                    clear h5' hap
                    clear HB
                    have HB := Aside0.mk hb
                    clear ho hb hgr hnw
                    refine hK.out _ _ trivial (fun hHeld => ?_)
                    clear hK K
                    refine norm_ (a' := ?_) ?_ ?_
                    rotate_left
                    · show Act.put _ (some 140) _ = _
                      simp only [Act.put, List.setIfInBounds_toArray, List.set_cons_zero, List.set_cons_succ, i64_w, i32_w]
                      rfl
                    refine one_ (i := 4) (N := some 144) #[true, true, true, true, true, true, false, true, true, true, false, false] rfl rfl (by kernel_rfl) (by decide) (fun K hK => ?_)
                    refine Kd.R_append_rows_step (Kd.int .i64) (w0 := ws) ws.heap.size (by rfl) (.tmp 140) (.tmp 143) 22 3 (.int .i64 0) 8 rfl Try.underlying22 Man.info3 rfl (by decide) (by omega) v140 ([] : List Int) (l4.take i.toNat) _ _ _ (fun _ => True) (fun _ => False) rfl rfl HO0.out (Kd.C_below HRt.out HB.out) (fun _ _ h => h) (fun _ h => h.elim) (fun _ _ => trivial) HB.out HB.out.size (by have := HI.out.2.2; have := HI.out.1; have := HI.out.2.1; simp; omega) ?_
                    intro v144 wn ho hb hgr hat
                    have HO4 := Aside0.mk ho
                    have hap := Ap.grow HD.out HO5.out hat
                    have h5' := R_apart HO5.out hgr HD.out
                    clear HO5 HD
                    have HO5 := Aside0.mk h5'
                    have HD := Aside0.mk hap
                    clear h5' hap
                    clear HB HO0
                    have HB := Aside0.mk hb
                    clear ho hb hgr hat
                    refine hK.out _ _ trivial (fun hHeld => ?_)
                    clear hK K
                    refine norm_ (a' := ?_) ?_ ?_
                    rotate_left
                    · show Act.put _ (some 144) _ = _
                      simp only [Act.put, List.setIfInBounds_toArray, List.set_cons_zero, List.set_cons_succ, i64_w, i32_w]
                      rfl
                    obtain ⟨A5, c5, rfl⟩ := Kd.R_slice HO5.out
                    refine one_ (i := 6) (N := some 146) #[true, true, true, true, true, true, true, true, true, true, false, false] rfl rfl (by kernel_rfl) (by decide) (fun K hK => ?_)
                    refine Kd.R_append_rows_step (Kd.int .i64) (w0 := ws) ws.heap.size (by rfl) (.tmp 144) (.tmp 145) 22 3 (.int .i64 0) 8 rfl Try.underlying22 Man.info3 rfl (by decide) (by omega) v144 ([] ++ l4.take i.toNat) ([7] : List Int) _ _ _ (fun _ => True) (fun _ => False) rfl rfl HO4.out (Kd.R_reads' HO5.out).2.2 (fun _ _ h => h) (fun _ h => h.elim) (fun _ _ => trivial) HB.out HB.out.size (by have := HI.out.2.2; have := HI.out.1; have := HI.out.2.1; simp; omega) ?_
                    intro v146 wn ho hb hgr hat
                    have HO6 := Aside0.mk ho
                    clear HB HO4 HO5 HD
                    have HB := Aside0.mk hb
                    clear ho hb hgr hat
                    refine hK.out _ _ trivial (fun hHeld => ?_)
                    clear hK K
                    refine norm_ (a' := ?_) ?_ ?_
                    rotate_left
                    · show Act.put _ (some 146) _ = _
                      simp only [Act.put, List.setIfInBounds_toArray, List.set_cons_zero, List.set_cons_succ, i64_w, i32_w]
                      rfl
                    refine one_ (i := 10) (N := some 150) #[true, true, true, true, true, true, true, true, true, true, true, false] rfl rfl (by kernel_rfl) (by decide) (fun K hK => ?_)
                    refine Kd.R_append_rows_step (Kd.int .i64) (w0 := ws) ws.heap.size (by rfl) (.tmp 146) (.tmp 149) 22 3 (.int .i64 0) 8 rfl Try.underlying22 Man.info3 rfl (by decide) (by omega) v146 ([] ++ l4.take i.toNat ++ [7]) (l4.drop i.toNat) _ _ _ (fun _ => True) (fun _ => False) rfl rfl HO6.out (Kd.C_below HRd.out HB.out) (fun _ _ h => h) (fun _ h => h.elim) (fun _ _ => trivial) HB.out HB.out.size (by have := HI.out.2.2; have := HI.out.1; have := HI.out.2.1; simp; omega) ?_
                    intro v150 wn ho hb hgr hat
                    rw [List.nil_append] at ho
                    have HO7 := Aside0.mk ho
                    clear HB HO6
                    have HB := Aside0.mk hb
                    clear ho hb hgr hat
                    refine hK.out _ _ trivial (fun hHeld => ?_)
                    clear hK K
                    refine norm_ (a' := ?_) ?_ ?_
                    rotate_left
                    · show Act.put _ (some 150) _ = _
                      simp only [Act.put, List.setIfInBounds_toArray, List.set_cons_zero, List.set_cons_succ, i64_w, i32_w]
                      rfl
                    refine pure_ (i := 11) (N := some 28) (v := ?_) (a' := ?_) #[true, true, true, true, true, true, true, true, true, true, true, true] rfl rfl (by kernel_rfl) (fun _ _ _ h => h) (Or.inl ⟨by rfl, ?_⟩) ?_ ?_
                    rotate_left
                    · intro w'
                      go_simp
                      with_reducible rfl
                    rotate_left
                    · simp only [Act.put, List.setIfInBounds_toArray, List.set_cons_zero, List.set_cons_succ, i64_w, i32_w]
                      rfl
                    refine done_ (by kernel_rfl) ?_
                    obtain ⟨Ay, cy, rfl⟩ := Kd.R_slice HO7.out
                    have hy := Kd.R_reads' HO7.out
                    have hbw := below_then hbs.out hbs.out.size HB.out
                    have HY := Aside0.mk (And.intro hy hbw)
                    clear hy hbw
                    go_wp2_with fail
                    go_meet
                    case rel => exact ⟨Ay, _, cy, rfl, by simp, HY.out.1.2.1, HY.out.1.2.2, HY.out.2⟩
                case rest =>
                  obtain ⟨Ay, ny, cy, rfl, hny, hy1, hy2, hbw⟩ := hcut
                  have HNY := Aside0.mk hny
                  clear hny
                  have HY := Aside0.mk (And.intro hy1 hy2)
                  have HS5 := Aside0.mk (HS4.out.step hbw)
                  have b26 := blk_below HB26.out hbw
                  have HR5 := Aside0.mk (Kd.C_below HR4.out hbw)
                  have HB26' := Aside0.mk b26
                  have d0 : wc.cell? ⟨w3.heap.size, 0, none⟩ = some (.slice A r1.length c) := (blk_cell b26 0).trans rfl
                  have d1 : wc.cell? ⟨w3.heap.size, 1, none⟩ = some (.int .i64 r2) := (blk_cell b26 1).trans rfl
                  clear hy1 hy2 hbw b26 HS4 HB26 HR4
                  go_wp2_with fail
                  (with_reducible refine (Cr.lin_Cut.calls k A c r1 r2 i s1 s2 0 _ HR5.out HR.out.2.1 HCut.out).mono ?_)
                  rintro e' w6 ⟨v, rfl, hR, hb⟩
                  obtain ⟨Aq, cq, rfl⟩ := Kd.R_slice hR
                  have hq := Kd.R_reads' hR
                  have S6 := HS5.out.step hb
                  have b26 := blk_below HB26'.out hb
                  obtain ⟨w7, hw7⟩ : ∃ w7, w7 = w6.alloc (.cells #[.slice Aq s1.length cq, .int .i64 s2] 24) := ⟨_, rfl⟩
                  have hb7 : Below w6.heap.size w6 w7 := by rw [hw7]; exact below_alloc (Below.refl _ _) _
                  have B29 : w7.heap[w6.heap.size]? = some (.cells #[.slice Aq s1.length cq, .int .i64 s2] 24 (0, 0)) := by rw [hw7]; exact blk_new _ _
                  have HS7 := Aside0.mk (S6.step hb7)
                  have HB29 := Aside0.mk B29
                  have HQ := Aside0.mk (And.intro hq.2.1 (Kd.C_below hq.2.2 hb7))
                  have HR7 := Aside0.mk (Kd.C_below (Kd.C_below HR5.out hb) hb7)
                  have HY7 := Aside0.mk (Kd.C_below (Kd.C_below HY.out.2 hb) hb7)
                  have b26' := blk_below b26 hb7
                  clear hR hb hq S6 b26 hb7 B29 HS5 HB26' HR5 d0 d1
                  go_upto_region 25 with fail
                  rw [← hw7]
                  have d0 : w7.cell? ⟨w3.heap.size, 0, none⟩ = some (.slice A r1.length c) := (blk_cell b26' 0).trans rfl
                  have d1 : w7.cell? ⟨w3.heap.size, 1, none⟩ = some (.int .i64 r2) := (blk_cell b26' 1).trans rfl
                  clear hw7 b26'
                  have g2 := bne_self_f m
                  go_wp2_with fail
                  have hcall := Vs.headlandref02_Value.calls k A c r1 r2 Ay cy _ _ _ HR7.out HR.out.2.1 HY7.out HY.out.1 HVal.out
                  rw [← HNY.out] at hcall
                  refine hcall.mono ?_
                  clear hcall
                  rintro e' w8 ⟨rfl, hb⟩
                  have S8 := HS7.out.step hb
                  have b29 := blk_below HB29.out hb
                  have HQ8 := Aside0.mk (Kd.C_below HQ.out.2 hb)
                  have HS8 := Aside0.mk S8
                  obtain ⟨c50, c51, c60, c61⟩ := S8.cells
                  have q0 : w8.cell? ⟨w6.heap.size, 0, none⟩ = some (.slice Aq s1.length cq) := (blk_cell b29 0).trans rfl
                  have q1 : w8.cell? ⟨w6.heap.size, 1, none⟩ = some (.int .i64 s2) := (blk_cell b29 1).trans rfl
                  clear S8 hb b29 d0 d1 HS7 HB29 HR7 HY7
                  go_wp2_with fail
                  (with_reducible refine (Bs.headlandref02_Same.calls k Aq cq s1 s2 A0 c0 l0 a0 true _ HQ8.out HQ.out.1 HS8.out.ra HC.out.1 HSame.out).mono ?_)
                  rintro e' w9 ⟨rfl, hb⟩
                  have HS9 := Aside0.mk (HS8.out.step hb)
                  clear hb c50 c51 c60 c61 q0 q1
                  go_wp2_with fail
                  go_meet
                  case rel => exact HS9.out
              · have g1 : (r3 == 0) = false := by simp [hg]
                clear hg
                subst hw4
                go_wp2_with fail
                go_meet
                case rel => exact HS4.out
            case rest =>
              have HS9 := Aside0.mk hcut
              clear hcut HS2 c50 c51 c60 c61
              go_wp2_with fail
              (with_reducible refine (Bs.headlandlaw02_awake.calls k true _ HW.out).mono ?_)
              rintro e' w3 ⟨rfl, hb⟩
              have S3 := HS9.out.step hb
              have HB3 := Aside0.mk S3.below
              clear S3 hb
              go_wp2
              go_ret
              exact ⟨rfl, HB3.out⟩
end Go.Proofs.Ytmafphfajgoojaa.Vw
