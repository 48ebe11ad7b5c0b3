/- The row rank of cond.Compare. -/
import Derived.Test.YtcakhbhjdpplcaaCq1
namespace Go.Proofs.Ytcakhbhjdpplcaa.Man
open Go.RowKit
def rank.f (x : Int) : Option Int := if x = 0 then some 1 else if x = 1 then some 0 else if x = 2 then some 2 else none
theorem rank_spec {x t : Int} (h : rank.f x = some t) : 0 ≤ x ∧ x < 3 ∧ (#[.int .i64 1, .int .i64 0, .int .i64 2] : Array Value)[x.toNat]? = some (.int .i64 t) := by
  unfold rank.f at h
  by_cases h0 : x = 0
  · subst h0; rw [if_pos rfl] at h; obtain rfl := Option.some.inj h; exact ⟨by decide, by decide, rfl⟩
  · rw [if_neg h0] at h
    by_cases h1 : x = 1
    · subst h1; rw [if_pos rfl] at h; obtain rfl := Option.some.inj h; exact ⟨by decide, by decide, rfl⟩
    · rw [if_neg h1] at h
      by_cases h2 : x = 2
      · subst h2; rw [if_pos rfl] at h; obtain rfl := Option.some.inj h; exact ⟨by decide, by decide, rfl⟩
      · rw [if_neg h2] at h; cases h
end Go.Proofs.Ytcakhbhjdpplcaa.Man
