/- The program's ValueOfSigns answers as the reference's does, for every list and text. -/
import Derived.Test.YtgcpjjifiebijaaDoorBoth0
import Derived.Test.YtgcpjjifiebijaaDoorSigns0
import Derived.Test.YtgcpjjifiebijaaDoorGx8
import Derived.Test.YtgcpjjifiebijaaDoorGx5
import Derived.Test.YtgcpjjifiebijaaDoorGx7
import Derived.Test.YtgcpjjifiebijaaDoorGx6
namespace Go.Proofs.YtgcpjjifiebijaaDoor.Pure
open Go.RowKit Go.Proofs.YtgcpjjifiebijaaDoor.G Go.Proofs.YtgcpjjifiebijaaDoorW.PrintWords Go.Proofs.YtgcpjjifiebijaaDoorW.PrintLast

theorem val_loop (l : List Int) (b : ByteArray) (hb : b.size = l.length) (hl : l.length ≤ 20) (hc : ∀ x ∈ l, 1 ≤ x ∧ x ≤ 10000) (d : Nat) : ∀ (i : Nat) (x : Int), l.length - i = d → i ≤ l.length →
    ∃ r, Ev (fun k => spec_ValueOfSigns.l0 k b x l (l.length : Int) (i : Int)) r ∧ Ev (fun k => impl_ValueOfSigns.l0 k b x l (l.length : Int) (i : Int)) r := by
  induction d with
  | zero =>
    intro i x hd hi
    exact ⟨(x, true), Ev.one fun k => by rw [spec_ValueOfSigns.l0, if_neg (by omega)], Ev.one fun k => by rw [impl_ValueOfSigns.l0, if_neg (by omega)]⟩
  | succ d ih =>
    intro i x hd hi
    have hil : i < l.length := by omega
    have hci := hc l[i] (List.getElem_mem hil)
    obtain ⟨s, hs, hw⟩ : ∃ s, spec_siOf.f (bt b (i : Int)) = some s ∧ impl_worth.f l[i] (bt b (i : Int)) = some (wrap64 (s * l[i])) := by
      unfold spec_siOf.f impl_worth.f
      by_cases h1 : bt b (i : Int) = 43
      · rw [if_pos h1, if_pos h1]; exact ⟨1, rfl, by rw [Int.one_mul, w64 (by omega) (by omega)]⟩
      · rw [if_neg h1, if_neg h1]
        by_cases h2 : bt b (i : Int) = 45
        · rw [if_pos h2, if_pos h2]; exact ⟨-1, rfl, by rw [Int.neg_one_mul]⟩
        · rw [if_neg h2, if_neg h2]; exact ⟨0, rfl, by rw [Int.zero_mul, w64 (by omega) (by omega)]⟩
    obtain ⟨r, h1, h2⟩ := ih (i + 1) (wrap64 (x + wrap64 (s * l[i]))) (by omega) (by omega)
    have w1 : wrap64 ((i : Int) + 1) = ((i + 1 : Nat) : Int) := by rw [w64 (by omega) (by omega)]; rfl
    refine ⟨r, Ev.step (fun k => ?_) h1, Ev.step (fun k => ?_) h2⟩
    · rw [spec_ValueOfSigns.l0, rd_eq l i hil, hs, w1, if_pos (by omega), if_pos (by omega), if_pos (by omega), if_pos (by omega), Option.bind_some]
    · rw [impl_ValueOfSigns.l0, rd_eq l i hil, hw, w1, if_pos (by omega), if_pos (by omega), if_pos (by omega), if_pos (by omega), Option.bind_some]
theorem areSigns_ev (l : List Int) (b : ByteArray) (hl : l.length ≤ 35184372088832) : Ev (fun k => impl_areSigns.f k l b) (fewB l && (decide ((b.size : Int) = (l.length : Int)) && signsB b)) := by
  unfold impl_areSigns.f
  have hb2 := isBoth_ev l 0 hl
  cases hf : fewB l with
  | false =>
    rw [hf] at hb2
    exact Ev.bind hb2 (Ev.if_neg' (by simp) (Ev.now _))
  | true =>
    rw [hf] at hb2
    have h12 := (few_pieces hf).2
    refine Ev.bind hb2 (Ev.if_pos' (by simp) ?_)
    by_cases he : (b.size : Int) = (l.length : Int)
    · rw [decide_eq_true he]
      obtain ⟨t, ht, hti⟩ := Trim_eq b (by omega)
      refine Ev.if_pos' he (Ev.const_bind ht ?_)
      have e : (t.toList == ([] : List UInt8)) = signsB b := by
        cases hsg : signsB b with
        | true => rw [hti.2 hsg]; rfl
        | false =>
          apply Bool.eq_false_iff.2
          intro hh
          rw [hti.1 (beq_iff_eq.1 hh)] at hsg
          cases hsg
      rw [e]
      exact Ev.now _
    · rw [decide_eq_false he]
      exact Ev.if_neg' he (Ev.now _)
theorem ValueOfSigns_ev (l : List Int) (b : ByteArray) (hl : l.length ≤ 35184372088832) (hbs : b.size ≤ 2000000) : ∃ r, Ev (fun k => spec_ValueOfSigns.f k l b) r ∧ Ev (fun k => impl_ValueOfSigns.f k l b) r := by
  unfold spec_ValueOfSigns.f impl_ValueOfSigns.f
  have no1 : Ev (fun k => spec_ValueOfSigns.j0 k l b true) (0, false) := Ev.one fun k => by rw [spec_ValueOfSigns.j0, if_pos rfl]
  have ha := areSigns_ev l b hl
  have hsi := siSigns_ev b (l.length : Int) hbs
  cases hf : fewB l with
  | false =>
    rw [hf] at ha
    exact ⟨(0, false), Ev.bind (siFew_ev l hl) (Ev.if_neg' (by simp [hf]) no1), Ev.bind ha (Ev.if_neg' (by simp) (Ev.now _))⟩
  | true =>
    rw [hf, Bool.true_and] at ha
    obtain ⟨hp, h12⟩ := few_pieces hf
    cases hs : (decide ((b.size : Int) = (l.length : Int)) && signsB b) with
    | false =>
      rw [hs] at ha hsi
      exact ⟨(0, false), Ev.bind (siFew_ev l hl) (Ev.if_pos' hf (Ev.bind hsi no1)), Ev.bind ha (Ev.if_neg' (by simp) (Ev.now _))⟩
    | true =>
      rw [hs] at ha hsi
      have hsz : b.size = l.length := by
        rw [Bool.and_eq_true, decide_eq_true_eq] at hs
        omega
      obtain ⟨r, h1, h2⟩ := val_loop l b hsz (by omega) (pieces_mem hp) l.length 0 0 (by omega) (by omega)
      exact ⟨r, Ev.bind (siFew_ev l hl) (Ev.if_pos' hf (Ev.bind hsi (Ev.step (fun k => by rw [spec_ValueOfSigns.j0, if_neg (by simp)]; rfl) h1))), Ev.bind ha (Ev.if_pos' rfl h2)⟩

theorem FnExactValueOfSigns : laws_FnExactValueOfSigns.Pure := by
  intro l b _ _ _ _
  by_cases h : (l.length : Int) > 1048576
  · exact ⟨0, by unfold laws_FnExactValueOfSigns.f; rw [if_pos h]⟩
  by_cases h' : (b.size : Int) > 1048576
  · exact ⟨0, by unfold laws_FnExactValueOfSigns.f; rw [if_neg h, if_pos h']⟩
  have hl : l.length ≤ 35184372088832 := by omega
  obtain ⟨r, hs, hi⟩ := ValueOfSigns_ev l b hl (by omega)
  apply Ev.rounds
  unfold laws_FnExactValueOfSigns.f
  refine Ev.if_neg' h (Ev.if_neg' h' (Ev.bind (toIntS_ev l hl) (Ev.bind hs (Ev.bind (toIntS_ev l hl) (Ev.bind hi (Ev.if_pos' rfl ?_))))))
  rw [show (r.2 != r.2) = false by simp]
  exact Ev.step (fun k => by rw [laws_FnExactValueOfSigns.j0, if_neg (by simp)]) (same_rest l hl)

end Go.Proofs.YtgcpjjifiebijaaDoor.Pure
