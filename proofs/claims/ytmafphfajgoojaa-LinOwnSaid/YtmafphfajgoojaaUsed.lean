/- The iterator lin.used: its contract, and the contract of its maker: it yields the pairs (index, coefficient) whose coefficient is not 0, in order; no condition. -/
import Derived.RangeFuncNested
import Derived.RangeFuncBound
import Derived.RangeFuncCalls
import Derived.RangeFuncLeaves
import Derived.RangeFuncWrites
import Derived.Shelf.Abstract
import Derived.WalkKit
import Derived.OwnWalkIn
import Derived.TacticsInMore
import Derived.LoopNIn
import Derived.LoopIn
import Derived.Test.YtmafphfajgoojaaClone
namespace Go.Proofs.Ytmafphfajgoojaa.Man
open Go.RowKit Go.Shelf Go.Proofs.YtmafphfajgoojaaW.PrintWords
set_option linter.unusedVariables false
set_option linter.unusedSimpArgs false
attribute [local go_sem] Oper.semAt_some
/-- The pairs that have come when k numbers are over. -/
def prs {n : Nat} (f : Fin n → Int) (k : Nat) : List (Fin n × Int) := ((List.finRange n).take k).filterMap fun i => if f i = 0 then none else some (i, f i)
theorem prs_succ {n : Nat} (f : Fin n → Int) (k : Nat) (h : k < n) : prs f (k + 1) = prs f k ++ (if f ⟨k, h⟩ = 0 then [] else [(⟨k, h⟩, f ⟨k, h⟩)]) := by
  unfold prs
  rw [List.take_succ_eq_append_getElem (by simpa using h), List.filterMap_append]
  congr 1
  simp only [List.getElem_finRange, Fin.cast_mk, List.filterMap_cons, List.filterMap_nil]
  by_cases c : f ⟨k, h⟩ = 0 <;> simp [c]
theorem prs_len {n : Nat} (f : Fin n → Int) (k : Nat) : (prs f k).length ≤ k := by
  unfold prs
  refine Nat.le_trans (List.length_filterMap_le _ _) ?_
  rw [List.length_take]; omega
set_option maxRecDepth 100000 in
set_option maxHeartbeats 2000000 in
theorem used1_in (F : Fence) (n : Nat) (hF : F.fn 61) (hro : F.round = none) (hn : 1 ≤ n) (l Bs n₀ : Nat) (ad : Addr) (cap : Nat) (K : Int) (zs : List Int) (hreach : zs.length ≤ 9223372036854775806) (hb : ad.block < n₀) (J Jx : List (Fin zs.length × Int) → World → Prop)
    (hY : ∀ pre x W, J pre W → pre.length < zs.length → YieldAt F (n - 1) Try.prog l #[.int .i64 ((x.1 : Nat) : Int), .int .i64 x.2] W fun e W' =>
      (e = .returned (.bool true) ∧ J (pre ++ [x]) W' ∧ Below n₀ W W') ∨ (e = .returned (.bool false) ∧ Jx (pre ++ [x]) W'))
    (W : World) (hBs : W.cell? ⟨Bs, 0, none⟩ = some (.slice (some ad) zs.length cap)) (hBs1 : W.cell? ⟨Bs, 1, none⟩ = some (.int .i64 K)) (hc : ∀ j, (h : j < zs.length) → W.cell? (ad.add j) = some (.int .i64 (zs[j]))) (h0 : J [] W) :
    CallsIn F n Try.prog 61 #[.func (.yield l) #[] #[], .pointer (some ⟨Bs, 0, none⟩)] W fun e W' => (∃ v, e = .returned v) ∧
      ((∃ ys, ys = prs (fun i => zs[i]) zs.length ∧ J ys W') ∨ (∃ pre, (∃ k, k ≤ zs.length ∧ pre = prs (fun i => zs[i]) k) ∧ Jx pre W')) := by
  refine callsIn_of_wp Try.func61 rfl hF ?_ hro
  simp only [Try.ntmps61, List.size_toArray, List.length_cons, List.length_nil, Nat.reduceAdd, Nat.reduceSub, Array.replicate_succ, Array.replicate_zero, List.push_toArray, List.append_toArray, List.nil_append, List.cons_append]
  gi_wp2
  gi_loopw [8] (fun i wr => ∃ k : Nat, k ≤ zs.length ∧ i = .int .i64 k ∧ J (prs (fun i => zs[i]) k) wr ∧ Below n₀ W wr)
    (fun i _ => zs.length - (intOf i).toNat)
  case atStart => exact ⟨0, Nat.zero_le _, rfl, h0, Below.refl _ _⟩
  case round =>
    obtain ⟨k, hk, rfl, hJs, hnx⟩ := hrel
    by_cases hlt : k < zs.length
    · have hcx : wr.cell? (ad.add k) = some (.int .i64 (zs[k])) := (hnx.cell (p := ad.add k) (by rw [add_block]; exact hb)).trans (hc k hlt)
      have hps := prs_succ (fun i : Fin zs.length => zs[i]) k hlt
      have hpl := prs_len (fun i : Fin zs.length => zs[i]) k
      obtain ⟨fn, tmps, assign, body, hy, hR⟩ := hY _ (⟨k, hlt⟩, zs[k]) wr hJs (by omega)
      dsimp only at hy
      have HS := Aside0.mk hps
      clear hps
      by_cases z : zs[k] = 0
      · have z1 : (zs[k] == 0) = true := beq_iff_eq.2 z
        have z2 : (zs[k] != 0) = false := bne_eq_false_iff_eq.2 z
        have Z := Aside0.mk z
        clear z
        gi_wp2
        refine ⟨fun _ h => (by cases h), ?_⟩
        gi_wp2
        go_roundw
        case rel => exact ⟨k + 1, by omega, by simp, by rw [HS.out]; simpa [Z.out] using hJs, hnx⟩
        case measure => simp [intOf]; omega
      · have z1 : (zs[k] == 0) = false := beq_eq_false_iff_ne.2 z
        have z2 : (zs[k] != 0) = true := bne_iff_ne.2 z
        have Z := Aside0.mk z
        clear z
        gi_wp2
        refine hR.mono ?_
        rintro e W3 (⟨rfl, hJ3, hk3⟩ | ⟨rfl, hJx3⟩)
        · gi_wp2
          go_roundw
          case rel => exact ⟨k + 1, by omega, by simp, by rw [HS.out]; simpa [Z.out] using hJ3, hnx.trans hk3⟩
          case measure => simp [intOf]; omega
        · gi_wp2
          refine bodyPost_ret (results_none rfl _ _ _) rfl ?_
          exact ⟨⟨_, rfl⟩, .inr ⟨_, ⟨k + 1, by omega, rfl⟩, by rw [HS.out]; simpa [Z.out] using hJx3⟩⟩
    · obtain rfl : k = zs.length := by omega
      gi_wp2
      go_end0
      exact ⟨⟨_, rfl⟩, .inl ⟨_, rfl, hJs⟩⟩
set_option maxRecDepth 100000 in
set_option maxHeartbeats 1000000 in
theorem used1_nil (F : Fence) (n : Nat) (hF : F.fn 61) (hro : F.round = none) (l Bs : Nat) (A : Option Addr) (cap : Nat) (K : Int) (J : List (Fin 0 × Int) → World → Prop) (W : World)
    (hBs : W.cell? ⟨Bs, 0, none⟩ = some (.slice A 0 cap)) (hBs1 : W.cell? ⟨Bs, 1, none⟩ = some (.int .i64 K)) (h0 : J [] W) :
    CallsIn F n Try.prog 61 #[.func (.yield l) #[] #[], .pointer (some ⟨Bs, 0, none⟩)] W fun e W' => (∃ v, e = .returned v) ∧ J [] W' := by
  refine callsIn_of_wp Try.func61 rfl hF ?_ hro
  simp only [Try.ntmps61, List.size_toArray, List.length_cons, List.length_nil, Nat.reduceAdd, Nat.reduceSub, Array.replicate_succ, Array.replicate_zero, List.push_toArray, List.append_toArray, List.nil_append, List.cons_append]
  gi_wp2
  gi_loopw [8] (fun i wr => i = .int .i64 0 ∧ J [] wr) (fun _ _ => 0)
  case atStart => exact ⟨rfl, h0⟩
  case round =>
    obtain ⟨rfl, hJs⟩ := hrel
    gi_wp2
    go_end0
    exact ⟨⟨_, rfl⟩, hJs⟩
end Go.Proofs.Ytmafphfajgoojaa.Man
