/- The plain law of CheckedCards: 128 numbers, counted out; behind them both programs say no. -/
import Derived.Test.YtpekdmadmggbpaaCcx7
import Derived.Test.YtpekdmadmggbpaaCcx4
import Derived.Test.YtpekdmadmggbpaaCcx6
namespace Go.Proofs.Ytpekdmadmggbpaa.Pure
open Go.RowKit Go.Proofs.Ytpekdmadmggbpaa.Cc
set_option linter.unusedVariables false
/-- All that the law looks at, for one number. -/
def checkedOk (k : Nat) (a0 : Int) : Bool :=
  match spec_CheckedCards.f k a0 with
  | some (n, L, b) => (impl_CheckedCards.f k a0 == some (n, L, b)) && (laws_eqCards.f k n L n L == some true) && (match laws_markIntSS.f k L 1 with
    | some (m, L2) => (laws_heldCards.f k n L2 1 == some m) && decide (0 ≤ m)
    | none => false)
  | none => false
theorem checkedOk_use {k : Nat} {lo a : Int} {len : Nat} (h : (List.range len).all (fun i => checkedOk k (lo + (i : Int))) = true) (h0 : lo ≤ a) (h1 : a < lo + len) : checkedOk k a = true := by
  have h2 := List.all_eq_true.1 h (a - lo).toNat (List.mem_range.2 (by omega))
  rw [show lo + (((a - lo).toNat : Nat) : Int) = a by omega] at h2
  exact h2
theorem checkedOk_of {k : Nat} {a0 : Int} (h : checkedOk k a0 = true) : ∃ (n : Int) (L : List (List Int)) (b : Bool) (m : Int) (L2 : List (List Int)), spec_CheckedCards.f k a0 = some (n, L, b) ∧ impl_CheckedCards.f k a0 = some (n, L, b) ∧ laws_eqCards.f k n L n L = some true ∧ laws_markIntSS.f k L 1 = some (m, L2) ∧ laws_heldCards.f k n L2 1 = some m ∧ 0 ≤ m := by
  unfold checkedOk at h
  split at h
  · next n L b hs =>
    split at h
    · next m L2 hm =>
      simp only [Bool.and_eq_true, beq_iff_eq, decide_eq_true_eq] at h
      exact ⟨n, L, b, m, L2, hs, h.1.1, h.1.2, hm, h.2.1, h.2.2⟩
    · simp at h
  · cases h
end Go.Proofs.Ytpekdmadmggbpaa.Pure
