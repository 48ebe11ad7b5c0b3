/- The loop of lin.Put over used(by): what it does to the memory. -/
import Derived.Test.YtmafphfajgoojaaUsed
import Derived.Test.YtmafphfajgoojaaAd1
namespace Go.Proofs.Ytmafphfajgoojaa.Man
open Go.RowKit Go.Shelf Go.Proofs.YtmafphfajgoojaaW.PrintWords Go.Proofs.YtmafphfajgoojaaW.PrintLast Go.Proofs.YtmafphfajgoojaaW.PrintMore
set_option linter.unusedVariables false
set_option linter.unusedSimpArgs false
/-- What is asked where the function returns (it ends in no other way). -/
def retPost (P : Program) (fn : Func) (R : Ending → World → Prop) : Exit → Act → World → Prop
  | .ret, a, w => bodyPostM Fence.wide 9 P fn R .ret a w
  | _, _, _ => False
theorem calls_of_marks {P : Program} {f : FuncId} {fn : Func} {c : Code} {args : Array Value} {w : World} {R : Ending → World → Prop} (hf : P.funcs[f]? = some fn) (hb : fn.body = some c)
    (h : c.wp P (retPost P fn R) { tmps := args ++ Array.replicate (fn.ntmps - args.size) undef, defers := [] } w) : Calls P f args w R :=
  (callsIn_wide (n := 9)).1 (callsIn_of_wp_marks hf hb trivial (wpIn_wide.2 (Code.wp_mono (fun e a w hq => by cases e <;> first | exact hq | exact hq.elim) h)) rfl)
theorem marks_ret {P : Program} {fn : Func} {R : Ending → World → Prop} {a : Act} {w : World} (h : bodyPost P fn R .ret a w) : retPost P fn R .ret a w := by
  obtain ⟨hd, v, hr, hR⟩ := h
  show LeavesInM _ _ _ _ _ _ a.defers _ _
  rw [hd]
  exact ⟨v, hr, hR⟩
set_option maxHeartbeats 1000000 in
theorem used_calls (A : Option Addr) (n c : Nat) (K : Int) (w : World) :
    Calls Try.prog 52 #[.agg #[.slice A n c, .int .i64 K]] w fun e w' => e = .returned (.func (.func 61) #[] #[.pointer (some ⟨w.heap.size, 0, none⟩)]) ∧ w' = w.alloc (.cells #[.slice A n c, .int .i64 K] 24) := by
  go_enter Try.func52, Try.ntmps52
  go_wp2
  go_ret
  exact ⟨rfl, rfl⟩
/-- The loop's work: each coefficient that is not 0 is added, k times. -/
def putStep (kk : Int) (ys : List Int) (p : Nat × Int) : List Int := ys.set p.1 (wrap64 (rd ys (p.1 : Int) + wrap64 (kk * p.2)))
def putLoop.f (ys zs : List Int) (k2 kk : Int) : Option (List Int) := if ys.length = zs.length ∧ zs.length ≤ 9223372036854775806 then some (((prs (fun i : Fin zs.length => zs[i]) zs.length).map fun p => ((p.1 : Nat), p.2)).foldl (putStep kk) ys) else none
theorem putLoop_spec {ys zs : List Int} {k2 kk : Int} {tr : List Int} (h : putLoop.f ys zs k2 kk = some tr) :
    ys.length = zs.length ∧ zs.length ≤ 9223372036854775806 ∧ tr = ((prs (fun i : Fin zs.length => zs[i]) zs.length).map fun p => ((p.1 : Nat), p.2)).foldl (putStep kk) ys := by
  unfold putLoop.f at h
  split at h
  · rename_i c; exact ⟨c.1, c.2, (Option.some.inj h).symm⟩
  · cases h
theorem name_world {P : Program} {c : Code} {Q : Exit → Act → World → Prop} {a : Act} {w : World} (h : ∀ W0, W0 = w → c.wp P Q a W0) : c.wp P Q a w := h w rfl
theorem kept_alloc {w1 W0 W : World} {o : Obj} {S : Nat → Prop} (h : W0 = w1.alloc o) (hk : Kept W0 W S) : Kept w1 W S :=
  (Kept.of_below (by rw [h]; exact below_alloc (Below.refl _ _) _) S).then_ hk (fun k hs => .inl hs)
theorem blk_of_eq {w1 W0 : World} {o o' : Obj} {g : Nat} (h : W0 = w1.alloc o') (hb : w1.heap[g]? = some o) : W0.heap[g]? = some o := by subst h; exact blk_below hb (below_alloc (Below.refl _ _) _)
theorem blk_of_new {w1 W0 : World} {o : Obj} (h : W0 = w1.alloc o) : W0.heap[w1.heap.size]? = some o := by subst h; exact blk_new _ _
theorem putStep_len (kk : Int) (l : List (Nat × Int)) : ∀ ys, (l.foldl (putStep kk) ys).length = ys.length := by
  induction l with
  | nil => intro ys; rfl
  | cons p l ih => intro ys; rw [List.foldl_cons, ih]; simp [putStep]
theorem defer_far {W : World} {D : Nat} {o : Obj} (h : W.heap[D]? = some o) {p : Addr} (hp : D ≠ p.block) (u : Value) : (W.setCell p u).heap[D]? = some o := (Below.heap_setCell W p u D hp).trans h
theorem cells_ne {W : World} {D g : Nat} {cs : Array Value} {t : TypeId} {fr : Nat × Nat} {x : Option (List Deferred)} (hg : W.heap[g]? = some (.cells cs t fr)) (hD : W.heap[D]? = some (.deferred x)) : D ≠ g := by
  rintro rfl
  rw [hg] at hD
  cases hD
theorem R_defer_ne {e : Nat} {W : World} {base : Nat} {ok : Nat → Prop} {v : Value} {xs : List Int} {D : Nat} {x : Option (List Deferred)} (h : (Kd.int .i64).R e W base ok v xs) (hD : W.heap[D]? = some (.deferred x)) : some D ≠ v.ownBlock := by
  obtain ⟨inner, ho⟩ := Kd.R_own h
  rcases ho.2 with ⟨rfl, _⟩ | ⟨g, cap, cur, rfl, _, hh, _⟩
  · simp [Value.ownBlock]
  · intro e'
    have : D = g := by simpa [Value.ownBlock] using e'
    exact cells_ne hh hD this
theorem R_putObj {e : Nat} {W : World} {base : Nat} {ok : Nat → Prop} {v : Value} {xs : List Int} {D : Nat} {x : Option (List Deferred)} (h : (Kd.int .i64).R e W base ok v xs) (hD : W.heap[D]? = some (.deferred x)) (o' : Obj) : (Kd.int .i64).R e (W.putObj D o') base ok v xs :=
  Kd.R_grown1 h rfl (grownBy_putObj' W D o') (R_defer_ne h hD)
theorem marks_ret_collected {P : Program} {fn : Func} {R : Ending → World → Prop} {a : Act} {W : World} {D : Nat} {v : Value} (hd : a.defers = [{ target := .collected D, args := #[] }]) (hK : W.heap[D]? = some (.deferred (some [])))
    (hr : (results fn a.tmps).run P (W.putObj D (.deferred none)) = .ok v (W.putObj D (.deferred none))) (hR : R (.returned v) (W.putObj D (.deferred none))) : retPost P fn R .ret a W := by
  show LeavesInM _ _ _ _ _ _ a.defers _ _
  rw [hd]
  exact ⟨by simp, .inl ⟨_, _, rfl, run_takeDeferred hK, ⟨v, hr, hR⟩⟩⟩
/-- used(by) hands over its pairs, whatever the loop's body does above the blocks that were there when the function was entered. -/
theorem used_stops (n : Nat) (hn : 1 ≤ n) (w W0 : World) (Bs : Nat) (A : Option Addr) (cap : Nat) (K : Int) (zs : List Int) (hreach : zs.length ≤ 9223372036854775806) (hB : Below w.heap.size w W0)
    (hbox : W0.heap[Bs]? = some (.cells #[.slice A zs.length cap, .int .i64 K] 24 (0, 0))) (HR : Kd.C (Kd.int .i64) w A zs.length zs) :
    SeqStopsK Fence.wide n Try.prog 61 #[.pointer (some ⟨Bs, 0, none⟩)] (fun x : Fin zs.length × Int => #[.int .i64 ((x.1 : Nat) : Int), .int .i64 x.2]) (Below w.heap.size)
      (fun ys => ys = prs (fun i : Fin zs.length => zs[i]) zs.length) (fun pre => ∃ k, k ≤ zs.length ∧ pre = prs (fun i : Fin zs.length => zs[i]) k) zs.length W0 := fun l J Jx W hW _ _ hY h0 => by
  have hbW := blk_below hbox hW
  have c0 : W.cell? ⟨Bs, 0, none⟩ = some (.slice A zs.length cap) := (blk_cell hbW 0).trans rfl
  have c1 : W.cell? ⟨Bs, 1, none⟩ = some (.int .i64 K) := (blk_cell hbW 1).trans rfl
  have hBW : Below w.heap.size w W := hB.trans (hW.mono hB.size)
  by_cases z : zs.length = 0
  · obtain rfl := List.length_eq_zero_iff.1 z
    exact (used1_nil Fence.wide n trivial rfl l Bs A cap K J W c0 c1 h0).mono fun e W' ⟨he, hj⟩ => ⟨he, .inl ⟨_, rfl, hj⟩⟩
  · obtain ⟨ad, rfl, _⟩ := Kd.at_int HR 0 (by omega) (by omega)
    refine used1_in Fence.wide n trivial rfl hn l Bs w.heap.size ad cap K zs hreach ?_ J Jx hY W c0 c1 ?_ h0
    · obtain ⟨_, e, hx⟩ := Kd.at_int HR 0 (by omega) (by omega)
      cases e
      have := World.block_lt_of_cell? _ _ hx
      rwa [add_block] at this
    · intro j hj
      obtain ⟨_, e, hx⟩ := Kd.at_int HR (j : Int) (by omega) (by omega)
      cases e
      rw [Int.toNat_natCast] at hx
      have := (hBW.cell (World.block_lt_of_cell? _ _ hx)).trans hx
      rw [this]
      simp [rd, hj]
end Go.Proofs.Ytmafphfajgoojaa.Man
