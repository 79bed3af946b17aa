/- Plain lemmas: the library's search in an increasing list finds just the list's elements. -/
import Derived.Test.YtpekdmadmggbpaaDoorBase
import Derived.Test.YtpekdmadmggbpaaDoorGx10
import Derived.Test.YtpekdmadmggbpaaDoorGx9
namespace Go.Proofs.YtpekdmadmggbpaaDoor.Pure
open Go.RowKit Go.Proofs.YtpekdmadmggbpaaDoor.G Go.Proofs.YtpekdmadmggbpaaDoorW.PrintWords Go.Proofs.YtpekdmadmggbpaaDoorW.PrintLast

theorem cmpLess_eq (a b : Int) : cmp_Less_int.f a b = some (decide (a < b)) := by
  unfold cmp_Less_int.f cmp_isNaN_int.f
  simp
theorem u64w {x : Int} (h0 : 0 ≤ x) (h1 : x < 18446744073709551616) : IntKind.u64.wrap x = x := by
  unfold IntKind.wrap
  simp [IntKind.signed, IntKind.bits]
  omega
def Incr (L : List Int) : Prop := ∀ i j, i < j → j < L.length → L.getD i 0 < L.getD j 0
theorem search_loop (L : List Int) (hL : Incr L) (hl : L.length ≤ 35184372088832) (x : Int) (d : Nat) : ∀ i j : Nat, j - i ≤ d → i ≤ j → j ≤ L.length →
    (∀ t, t < i → L.getD t 0 < x) → (∀ t, j ≤ t → t < L.length → x ≤ L.getD t 0) →
    ∃ p, Ev (fun k => slices_BinarySearch_int_int.l0 k L x (L.length : Int) (i : Int) (j : Int)) (p, decide (x ∈ L)) := by
  have fin : ∀ i : Nat, i ≤ L.length → (∀ t, t < i → L.getD t 0 < x) → (∀ t, i ≤ t → t < L.length → x ≤ L.getD t 0) →
      ∃ p, Ev (fun k => slices_BinarySearch_int_int.l0 k L x (L.length : Int) (i : Int) (i : Int)) (p, decide (x ∈ L)) := by
    intro i hi hlo hhi
    refine ⟨(i : Int), Ev.one fun k => ?_⟩
    rw [slices_BinarySearch_int_int.l0, if_neg (by omega)]
    by_cases hil : i < L.length
    · rw [if_pos (by omega), if_pos (by omega), if_pos (by omega), rd_nat]
      by_cases he : L.getD i 0 = x
      · have hm : x ∈ L := by rw [← he]; simp [List.getD, hil]
        rw [if_pos he, decide_eq_true hm]
      · have hm : ¬ x ∈ L := by
          intro hm
          obtain ⟨t, ht, hx⟩ := List.getElem_of_mem hm
          have e : L.getD t 0 = x := by simp [List.getD, ht, hx]
          by_cases h1 : t < i
          · have := hlo t h1; omega
          · by_cases h2 : t = i
            · subst h2; exact he e
            · have := hL i t (by omega) ht
              have := hhi i (by omega) hil
              omega
        rw [if_neg he, decide_eq_false hm]
        simp [slices_isNaN_int.f]
    · have hm : ¬ x ∈ L := by
        intro hm
        obtain ⟨t, ht, hx⟩ := List.getElem_of_mem hm
        have e : L.getD t 0 = x := by simp [List.getD, ht, hx]
        have := hlo t (by omega)
        omega
      rw [if_neg (by omega), decide_eq_false hm]
  induction d with
  | zero =>
    intro i j hd hij hj hlo hhi
    obtain rfl : i = j := by omega
    exact fin i hj hlo hhi
  | succ d ih =>
    intro i j hd hij hj hlo hhi
    by_cases hlt : i < j
    · have e0 : IntKind.u64.wrap (wrap64 ((i : Int) + (j : Int))) = (i : Int) + j := by rw [w64 (by omega) (by omega), u64w (by omega) (by omega)]
      have e1 : wrap64 (((i : Int) + j) / 2) = (((i + j) / 2 : Nat) : Int) := by rw [w64 (by omega) (by omega)]; omega
      by_cases hc : L.getD ((i + j) / 2) 0 < x
      · obtain ⟨p, hp⟩ := ih ((i + j) / 2 + 1) j (by omega) (by omega) hj (fun t ht => by
          by_cases h1 : t = (i + j) / 2
          · rw [h1]; exact hc
          · have := hL t ((i + j) / 2) (by omega) (by omega); omega) hhi
        refine ⟨p, Ev.step (fun k => ?_) hp⟩
        rw [slices_BinarySearch_int_int.l0, if_pos (by omega), e0, e1, if_pos (by omega), if_pos (by omega), rd_nat, cmpLess_eq, decide_eq_true hc, Option.bind_some, if_pos rfl, w64 (by omega) (by omega)]
        rfl
      · obtain ⟨p, hp⟩ := ih i ((i + j) / 2) (by omega) (by omega) (by omega) hlo (fun t ht ht' => by
          by_cases h1 : t = (i + j) / 2
          · rw [h1]; omega
          · have := hL ((i + j) / 2) t (by omega) ht'; omega)
        refine ⟨p, Ev.step (fun k => ?_) hp⟩
        rw [slices_BinarySearch_int_int.l0, if_pos (by omega), e0, e1, if_pos (by omega), if_pos (by omega), rd_nat, cmpLess_eq, decide_eq_false hc, Option.bind_some, if_neg (by simp)]
    · obtain rfl : i = j := by omega
      exact fin i hj hlo hhi
theorem search_ev (L : List Int) (hL : Incr L) (hl : L.length ≤ 35184372088832) (x : Int) : ∃ p, Ev (fun k => slices_BinarySearch_int_int.f k L x) (p, decide (x ∈ L)) := by
  unfold slices_BinarySearch_int_int.f
  exact search_loop L hL hl x L.length 0 L.length (by omega) (by omega) (by omega) (fun t ht => by omega) (fun t ht ht' => by omega)

end Go.Proofs.YtpekdmadmggbpaaDoor.Pure
