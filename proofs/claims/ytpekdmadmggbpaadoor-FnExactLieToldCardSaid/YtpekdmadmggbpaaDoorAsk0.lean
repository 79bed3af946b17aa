/- Plain lemmas: answers to cards: which are right, by the program and by the reference; the sum of the first numbers. -/
import Derived.Test.YtpekdmadmggbpaaDoorCard0
import Derived.Test.YtpekdmadmggbpaaDoorAnswer0
import Derived.Test.YtpekdmadmggbpaaDoorGx2
import Derived.Test.YtpekdmadmggbpaaDoorGx5
import Derived.Test.YtpekdmadmggbpaaDoorGx3
namespace Go.Proofs.YtpekdmadmggbpaaDoor.Pure
open Go.RowKit Go.Proofs.YtpekdmadmggbpaaDoor.G Go.Proofs.YtpekdmadmggbpaaDoorW.PrintWords Go.Proofs.YtpekdmadmggbpaaDoorW.PrintLast

def ynB (b : ByteArray) : Bool := b.data.toList.all spec_caAsked.isYn
theorem dropWhile_nil_yn (p : UInt8 → Bool) (l : List UInt8) : l.dropWhile p = [] ↔ l.all p = true := by
  induction l with
  | nil => simp
  | cons a t ih =>
    rw [List.dropWhile_cons, List.all_cons]
    cases h : p a
    · simp
    · simp [ih]
theorem trim_nil_yn (l cs : List UInt8) : Go.Lib.trimS l cs = [] ↔ l.all (cs.contains ·) = true := by
  unfold Go.Lib.trimS Go.Lib.trimLeftS Go.Lib.trimRightS
  rw [dropWhile_nil_yn]
  have h1 : (l.reverse.takeWhile (cs.contains ·) ++ l.reverse.dropWhile (cs.contains ·)) = l.reverse := List.takeWhile_append_dropWhile
  have h2 : (l.reverse.takeWhile (cs.contains ·)).all (cs.contains ·) = true := List.all_takeWhile
  have h3 : l.reverse.all (cs.contains ·) = ((l.reverse.takeWhile (cs.contains ·)).all (cs.contains ·) && (l.reverse.dropWhile (cs.contains ·)).all (cs.contains ·)) := by
    conv => lhs; rw [← h1]
    rw [List.all_append]
  rw [h2, Bool.true_and, List.all_reverse] at h3
  rw [List.all_reverse, ← h3]
theorem yn_contains (u : UInt8) : [121, 110].contains u = spec_caAsked.isYn u := by
  unfold spec_caAsked.isYn
  have h1 : u = 121 ↔ u.toNat = 121 := ⟨fun h => by rw [h]; rfl, fun h => UInt8.toNat_inj.1 (by rw [h]; rfl)⟩
  have h2 : u = 110 ↔ u.toNat = 110 := ⟨fun h => by rw [h]; rfl, fun h => UInt8.toNat_inj.1 (by rw [h]; rfl)⟩
  rw [Bool.eq_iff_iff]
  simp only [List.contains_cons, List.contains_nil, Bool.or_false, Bool.or_eq_true, beq_iff_eq, h1, h2, decide_eq_true_eq]
theorem Trim_yn (b : ByteArray) (h : b.size ≤ 1000000) : ∃ t, strings_Trim.f b (⟨#[121, 110]⟩ : ByteArray) = some t ∧ (t.toList == ([] : List UInt8)) = ynB b := by
  refine ⟨⟨(Go.Lib.trimS b.data.toList [121, 110]).toArray⟩, ?_, ?_⟩
  · unfold strings_Trim.f
    rw [if_pos ⟨h, by decide, by decide⟩]
  · rw [Go.Lib.toList_data, Bool.eq_iff_iff, beq_iff_eq]
    show Go.Lib.trimS b.data.toList [121, 110] = [] ↔ _
    rw [trim_nil_yn, funext yn_contains]
    rfl
def asksB (n : Int) (l : List (List Int)) (b : ByteArray) : Bool := cardsB n l && (decide ((b.size : Int) = (l.length : Int)) && ynB b)
section
variable (n : Int) (l : List (List Int)) (hl : l.length ≤ 1048576) (hr : ∀ x ∈ l, x.length ≤ 1048576) (b : ByteArray)
include hl hr
theorem caAsked_ev : Ev (fun k => spec_caAsked.f k n l b) (asksB n l b) := by
  unfold spec_caAsked.f asksB
  cases hc : cardsB n l with
  | false => exact Ev.bind (caGood_ev n l hl hr) (Ev.if_neg' (by simp [hc]) (Ev.now _))
  | true =>
    rw [Bool.true_and]
    refine Ev.bind (caGood_ev n l hl hr) (Ev.if_pos' hc ?_)
    by_cases e : (b.size : Int) = (l.length : Int)
    · rw [decide_eq_true e, Bool.true_and]
      exact Ev.if_pos' e (Ev.now _)
    · rw [decide_eq_false e, Bool.false_and]
      exact Ev.if_neg' e (Ev.now _)
theorem areAnswers_ev : Ev (fun k => impl_areAnswers.f k n l b) (asksB n l b) := by
  unfold impl_areAnswers.f asksB
  cases hc : cardsB n l with
  | false => exact Ev.bind (AreCards_ev n l hr) (Ev.if_neg' (by simp [hc]) (Ev.now _))
  | true =>
    rw [Bool.true_and]
    refine Ev.bind (AreCards_ev n l hr) (Ev.if_pos' hc ?_)
    by_cases e : (b.size : Int) = (l.length : Int)
    · rw [decide_eq_true e, Bool.true_and]
      have h12 := (cards_facts hc).2.1
      obtain ⟨t, h1, h2⟩ := Trim_yn b (by omega)
      exact Ev.if_pos' e (Ev.const_bind h1 (by rw [h2]; exact Ev.now _))
    · rw [decide_eq_false e, Bool.false_and]
      exact Ev.if_neg' e (Ev.now _)
end
theorem asks_facts {n : Int} {l : List (List Int)} {b : ByteArray} (h : asksB n l b = true) : cardsB n l = true ∧ b.size = l.length ∧ ynB b = true := by
  unfold asksB at h
  rw [Bool.and_eq_true, Bool.and_eq_true, decide_eq_true_eq] at h
  exact ⟨h.1, by omega, h.2.2⟩
theorem firsts_loop (s : ByteArray) (l : List (List Int)) (hs : s.size = l.length) (h12 : l.length ≤ 12) (d : Nat) : ∀ (i : Nat) (sum : Int), l.length - i = d → i ≤ l.length →
    ∃ r : Int × Bool, Ev (fun k => spec_caFirsts.l0 k s sum l (l.length : Int) (i : Int)) r ∧ Ev (fun k => impl_FirstsSum.l0 k s sum l (l.length : Int) (i : Int)) r := by
  induction d with
  | zero =>
    intro i sum hd hi
    exact ⟨(sum, true), Ev.one fun k => by rw [spec_caFirsts.l0, if_neg (by omega)], Ev.one fun k => by rw [impl_FirstsSum.l0, if_neg (by omega)]⟩
  | succ d ih =>
    intro i sum hd hi
    have hil : i < l.length := by omega
    have hw : wrap64 ((i : Int) + 1) = ((i + 1 : Nat) : Int) := w64 (by omega) (by omega)
    by_cases hb : bt s (i : Int) = 121
    · by_cases h0 : ((rd_L1 l (i : Int)).length : Int) = 0
      · refine ⟨(0, false), Ev.one fun k => ?_, Ev.one fun k => ?_⟩
        · rw [spec_caFirsts.l0, if_pos (by omega), if_pos (by omega), if_pos (by omega), if_pos (by omega), if_pos hb, if_pos h0]
        · rw [impl_FirstsSum.l0, if_pos (by omega), if_pos (by omega), if_pos (by omega), if_pos (by omega), if_pos hb, if_pos h0]
      · obtain ⟨r, h1, h2⟩ := ih (i + 1) (wrap64 (sum + rd (rd_L1 l (i : Int)) 0)) (by omega) (by omega)
        refine ⟨r, Ev.step (fun k => ?_) h1, Ev.step (fun k => ?_) h2⟩
        · rw [spec_caFirsts.l0, if_pos (by omega), if_pos (by omega), if_pos (by omega), if_pos (by omega), if_pos hb, if_neg h0, if_pos (by omega), hw]
        · rw [impl_FirstsSum.l0, if_pos (by omega), if_pos (by omega), if_pos (by omega), if_pos (by omega), if_pos hb, if_neg h0, if_pos (by omega), hw]
    · obtain ⟨r, h1, h2⟩ := ih (i + 1) sum (by omega) (by omega)
      refine ⟨r, Ev.step (fun k => ?_) h1, Ev.step (fun k => ?_) h2⟩
      · rw [spec_caFirsts.l0, if_pos (by omega), if_pos (by omega), if_pos (by omega), if_pos (by omega), if_neg hb, hw]
      · rw [impl_FirstsSum.l0, if_pos (by omega), if_pos (by omega), if_pos (by omega), if_pos (by omega), if_neg hb, hw]
theorem ansT_size (l : List (List Int)) (a : Int) : (ansT l a).size = l.length := by
  unfold ansT ansL
  rw [str_size, List.length_map]
theorem ansT_yn (l : List (List Int)) (a : Int) : ynB (ansT l a) = true := by
  unfold ynB ansT ansL strOfNums
  rw [List.all_eq_true]
  intro u hu
  simp only [List.map_map, List.mem_map, Function.comp] at hu
  obtain ⟨x, _, rfl⟩ := hu
  by_cases h : a ∈ x
  · rw [if_pos h]; decide
  · rw [if_neg h]; decide
theorem asks_own {n : Int} {l : List (List Int)} (h : cardsB n l = true) (a : Int) : asksB n l (ansT l a) = true := by
  unfold asksB
  rw [h, ansT_yn, decide_eq_true (by rw [ansT_size])]
  rfl

end Go.Proofs.YtpekdmadmggbpaaDoor.Pure
