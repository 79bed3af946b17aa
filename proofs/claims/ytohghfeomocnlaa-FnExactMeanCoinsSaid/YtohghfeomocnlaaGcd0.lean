/- Plain lemmas: the greatest common divisor and the greatest element of a list, as the program reckons them. -/
import Derived.Test.YtohghfeomocnlaaBase
import Derived.Test.YtohghfeomocnlaaGx13
import Derived.Test.YtohghfeomocnlaaGx12
namespace Go.Proofs.Ytohghfeomocnlaa.Pure
open Go.RowKit Go.Proofs.Ytohghfeomocnlaa.G Go.Proofs.YtohghfeomocnlaaW.PrintWords Go.Proofs.YtohghfeomocnlaaW.PrintLast

theorem gcd_step (a b : Nat) : Nat.gcd a b = Nat.gcd b (a % b) := by rw [Nat.gcd_comm a b, Nat.gcd_rec b a, Nat.gcd_comm]
theorem tmod_nat (a b : Nat) : Int.tmod (a : Int) (b : Int) = ((a % b : Nat) : Int) := by rw [Int.tmod_eq_emod_of_nonneg (by omega)]; rfl
theorem gcd_loop (b : Nat) : ∀ a : Nat, Ev (fun k => impl_gcd.l0 k (a : Int) (b : Int)) ((Nat.gcd a b : Nat) : Int) := by
  induction b using Nat.strongRecOn with
  | ind b ih =>
    intro a
    by_cases hb : b = 0
    · subst hb
      exact Ev.one fun k => by rw [impl_gcd.l0, if_pos (by omega), Nat.gcd_zero_right]
    · rw [gcd_step]
      refine Ev.step (fun k => ?_) (ih (a % b) (Nat.mod_lt _ (by omega)) b)
      rw [impl_gcd.l0, if_neg (by omega), tmod_nat]
theorem gcd_ev (a b : Nat) : Ev (fun k => impl_gcd.f k (a : Int) (b : Int)) ((Nat.gcd a b : Nat) : Int) := by
  unfold impl_gcd.f
  exact gcd_loop b a
theorem max_loop (L : List Int) (hl : L.length ≤ 35184372088832) (d : Nat) : ∀ (i : Nat) (m : Int), L.length - i = d → i ≤ L.length → m ∈ L → (∀ x ∈ L.take i, x ≤ m) →
    ∃ M, Ev (fun k => slices_Max_int_int.l0 k L m (i : Int)) M ∧ M ∈ L ∧ ∀ x ∈ L, x ≤ M := by
  induction d with
  | zero =>
    intro i m hd hi hm hx
    rw [List.take_of_length_le (by omega)] at hx
    exact ⟨m, Ev.one fun k => by rw [slices_Max_int_int.l0, if_neg (by omega)], hm, hx⟩
  | succ d ih =>
    intro i m hd hi hm hx
    have hil : i < L.length := by omega
    have hmx : mx m L[i] = m ∧ L[i] ≤ m ∨ mx m L[i] = L[i] ∧ m < L[i] := by
      by_cases h : m < L[i]
      · exact .inr ⟨if_pos h, h⟩
      · exact .inl ⟨if_neg h, by omega⟩
    obtain ⟨M, h1, h2, h3⟩ := ih (i + 1) (mx m L[i]) (by omega) (by omega) (by
      rcases hmx with ⟨h, _⟩ | ⟨h, _⟩ <;> rw [h]
      · exact hm
      · exact List.getElem_mem hil) (fun x hx' => by
      rw [List.take_succ_eq_append_getElem hil] at hx'
      rcases List.mem_append.1 hx' with h | h
      · have := hx x h; rcases hmx with ⟨e, _⟩ | ⟨e, _⟩ <;> omega
      · rw [List.mem_singleton.1 h]; rcases hmx with ⟨e, _⟩ | ⟨e, _⟩ <;> omega)
    refine ⟨M, Ev.step (fun k => ?_) h1, h2, h3⟩
    rw [slices_Max_int_int.l0, if_pos (by omega), if_pos (by omega), rd_eq L i hil, w64 (by omega) (by omega)]
    rfl
theorem max_ev (L : List Int) (h0 : 1 ≤ L.length) (hl : L.length ≤ 35184372088832) : ∃ M, Ev (fun k => slices_Max_int_int.f k L) M ∧ M ∈ L ∧ ∀ x ∈ L, x ≤ M := by
  unfold slices_Max_int_int.f
  have e : rd L 0 = L[0] := rd_eq L 0 (by omega)
  obtain ⟨M, h1, h2⟩ := max_loop L hl (L.length - 1) 1 L[0] rfl (by omega) (List.getElem_mem (by omega)) (fun x hx => by
    rw [List.take_succ_eq_append_getElem (by omega)] at hx; simp at hx; omega)
  refine ⟨M, Ev.if_neg' (by omega) (Ev.if_pos' (by omega) ?_), h2⟩
  rw [e]
  exact h1

end Go.Proofs.Ytohghfeomocnlaa.Pure
