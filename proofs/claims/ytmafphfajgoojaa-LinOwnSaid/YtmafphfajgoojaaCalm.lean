/- A region whose operations make no call: what it does outside of a fence it does inside one, too. No condition but that each operation is of a calm kind. -/
import Derived.RangeFuncWrites
import Derived.RangeFuncLeaves
import Derived.Orders
import Derived.OrdersIn
import Derived.Test.YtmafphfajgoojaaWLast
namespace Go.Proofs.Ytmafphfajgoojaa
set_option linter.unusedSimpArgs false
open Go Go.Proofs.YtmafphfajgoojaaW.PrintLast
section
variable {F : Fence} {n : Nat} {P : Program} {ops : Array Oper} {Q : Exit → Act → World → Prop} {md : Region.Mode}
/-- The kinds of operations that make no call and defer nothing. -/
def calmB : Op → Bool
  | .move _ | .assign _ | .load .. | .store .. | .binOp .. | .unOp .. | .fieldAddr .. | .indexAddr .. | .convert .. => true
  | _ => false
theorem calm_wpIn {o : Oper} (hc : calmB o.op = true) {a : Act} {w : World} {K K' : Act → World → Prop} (hK : ∀ a w, K a w → K' a w) (h : o.wp P a w K Q) : o.wpIn F n P a w K' Q := by
  have hd : ∀ c, o.op ≠ .defer c := fun c e => by rw [e] at hc; simp [calmB] at hc
  have hs : o.semAt F.round a.eval = execOp a.eval o := Oper.semAt_eq _ _ _ hd
  have ha : o.about P w a.eval = none := by
    unfold Oper.about
    split
    · rename_i c e; rw [e] at hc; simp [calmB] at hc
    · rfl
  unfold Oper.wpIn
  unfold Oper.wp at h
  rw [hs, ha]
  refine ⟨fun f e => (by cases e), ?_⟩
  unfold execOp at *
  cases ho : o.op <;> rw [ho] at hc <;> simp only [calmB, Bool.false_eq_true] at hc <;> simp only [ho, Sem.run_bind, Sem.run_pure] at h ⊢
  all_goals first
    | exact hK _ _ h
    | (generalize Sem.run P _ w = r at h ⊢
       cases r with
       | ok x w' => first | exact hK _ _ h | (simp only [Result.andThen] at h ⊢; first | exact hK _ _ h | (generalize Sem.run P _ w' = r2 at h ⊢; cases r2 with
         | ok x2 w2 => exact hK _ _ h
         | halt x2 w2 => cases x2 <;> exact h))
       | halt x w' => cases x <;> exact h)
theorem calm_any (hQ : ¬ LetsOut Q) (hc : ∀ (i : Nat) (o : Oper), ops[i]? = some o → calmB o.op = true ∧ o.guard = none) : ∀ (fuel : Nat) (l : Array Bool) (a : Act) (w : World), wpAny P md ops Q fuel l a w → wpAnyIn F n P md ops Q fuel l a w
  | 0, _, _, _, h => h
  | fuel + 1, l, a, w, h => ⟨h.1, fun i hi => by
      have h2 := h.2 i hi
      unfold wpOp at h2
      unfold wpOpIn
      cases ho : ops[i]? with
      | none => simp only [ho] at h2 ⊢; exact calm_any hQ hc fuel _ _ _ h2
      | some o =>
        simp only [ho] at h2 ⊢
        obtain ⟨hc1, hc2⟩ := hc i o ho
        have hw : Region.wanted o (yielded ops a.tmps) = true := by simp [Region.wanted, hc2]
        rw [if_pos hw] at h2 ⊢
        exact calm_wpIn hc1 (fun a w h => calm_any hQ hc fuel _ _ _ h) (h2.resolve_right fun e => hQ e.2)⟩
/-- A region that draws its order and holds calm operations alone: walked as 'start_' walks it outside of a fence, what it outgrows shut out by the post. -/
theorem calm_start {S : World → Prop} {ds : List Nat} {id m : Nat} {a : Act} {w : World} (l : Array Bool) (hm : P.follows .mixedOrders = true) (hn : ops.size = m) (hl : Array.replicate m false = l)
    (hc : ops.toList.all (fun o => calmB o.op && o.guard.isNone) = true) (hS : S w.drew) (h : S w.drew → wpAnyLast P .any ops (fun e a w => Q e a w ∧ e ≠ .outgrown) S ds m l a w.drew) : (Code.region id ops true).wpIn F n P Q a w := by
  subst hn
  subst hl
  refine wpIn_mono (Q := fun e a w => Q e a w ∧ e ≠ .outgrown) (wpIn_region_any hm (calm_any (fun ⟨_, _, h⟩ => h.2 rfl) (fun i o ho => ?_) _ _ _ _ (wpAny_of_last _ _ _ _ (h hS)))) (fun _ _ _ h => h.1)
  have := List.all_eq_true.1 hc o (Array.mem_toList_iff.2 (Array.mem_of_getElem? ho))
  simpa using this
end
end Go.Proofs.Ytmafphfajgoojaa
