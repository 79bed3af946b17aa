/- Plain lemmas: texts of signs: how the reference and how the program tell them. -/
import Derived.Test.YtgcpjjifiebijaaDoorBase
import Derived.Test.YtgcpjjifiebijaaDoorGx1
import Derived.Test.YtgcpjjifiebijaaDoorGx2
namespace Go.Proofs.YtgcpjjifiebijaaDoor.Pure
open Go.RowKit Go.Proofs.YtgcpjjifiebijaaDoor.G Go.Proofs.YtgcpjjifiebijaaDoorW.PrintWords Go.Proofs.YtgcpjjifiebijaaDoorW.PrintLast

def isSign (u : UInt8) : Bool := [43, 45, 48].contains u
def signsB (b : ByteArray) : Bool := b.data.toList.all isSign
theorem dropWhile_nil (p : UInt8 → Bool) (l : List UInt8) : l.dropWhile p = [] ↔ l.all p = true := by
  induction l with
  | nil => simp
  | cons a t ih =>
    rw [List.dropWhile_cons, List.all_cons]
    cases h : p a
    · simp
    · simp [ih]
theorem trim_nil (l cs : List UInt8) : Go.Lib.trimS l cs = [] ↔ l.all (cs.contains ·) = true := by
  unfold Go.Lib.trimS Go.Lib.trimLeftS Go.Lib.trimRightS
  rw [dropWhile_nil]
  have h1 : (l.reverse.takeWhile (cs.contains ·) ++ l.reverse.dropWhile (cs.contains ·)) = l.reverse := List.takeWhile_append_dropWhile
  have h2 : (l.reverse.takeWhile (cs.contains ·)).all (cs.contains ·) = true := List.all_takeWhile
  have h3 : l.reverse.all (cs.contains ·) = ((l.reverse.takeWhile (cs.contains ·)).all (cs.contains ·) && (l.reverse.dropWhile (cs.contains ·)).all (cs.contains ·)) := by
    conv => lhs; rw [← h1]
    rw [List.all_append]
  rw [h2, Bool.true_and, List.all_reverse] at h3
  rw [List.all_reverse, ← h3]
theorem Trim_eq (b : ByteArray) (h : b.size ≤ 1000000) : ∃ t, strings_Trim.f b (⟨#[43, 45, 48]⟩ : ByteArray) = some t ∧ (t.toList = ([] : List UInt8) ↔ signsB b = true) := by
  refine ⟨⟨(Go.Lib.trimS b.data.toList [43, 45, 48]).toArray⟩, ?_, ?_⟩
  · unfold strings_Trim.f
    rw [if_pos ⟨h, by decide, by decide⟩]
  · rw [Go.Lib.toList_data]
    show Go.Lib.trimS b.data.toList [43, 45, 48] = [] ↔ _
    rw [trim_nil]
    rfl
theorem size_list (b : ByteArray) : b.data.toList.length = b.size := by
  rw [Array.length_toList]; rfl
theorem bt_list (b : ByteArray) (i : Nat) (h : i < b.size) : bt b (i : Int) = ((b.data.toList[i]'(by rw [size_list]; exact h)).toNat : Int) := by
  unfold bt
  rw [dif_pos (by rw [Int.toNat_natCast]; exact h)]
  simp [ByteArray.getElem_eq_getElem_data]
theorem isSign_iff (u : UInt8) : isSign u = true ↔ ((u.toNat : Int) = 43 ∨ (u.toNat : Int) = 45 ∨ (u.toNat : Int) = 48) := by
  unfold isSign
  have h1 : u = 43 ↔ u.toNat = 43 := ⟨fun h => by rw [h]; rfl, fun h => UInt8.toNat_inj.1 (by rw [h]; rfl)⟩
  have h2 : u = 45 ↔ u.toNat = 45 := ⟨fun h => by rw [h]; rfl, fun h => UInt8.toNat_inj.1 (by rw [h]; rfl)⟩
  have h3 : u = 48 ↔ u.toNat = 48 := ⟨fun h => by rw [h]; rfl, fun h => UInt8.toNat_inj.1 (by rw [h]; rfl)⟩
  simp only [List.contains_cons, List.contains_nil, Bool.or_false, Bool.or_eq_true, beq_iff_eq, h1, h2, h3]
  omega
theorem siSigns_loop (b : ByteArray) (hb : b.size ≤ 2000000) (d : Nat) : ∀ i : Nat, b.size - i = d → i ≤ b.size →
    Ev (fun k => spec_siSigns.l0 k b (i : Int)) ((b.data.toList.drop i).all isSign) := by
  induction d with
  | zero =>
    intro i hd hi
    rw [List.drop_of_length_le (by rw [size_list]; omega)]
    exact Ev.one fun k => by rw [spec_siSigns.l0, if_neg (by omega)]; rfl
  | succ d ih =>
    intro i hd hi
    have hil : i < b.size := by omega
    have h := ih (i + 1) (by omega) (by omega)
    rw [List.drop_eq_getElem_cons (by rw [size_list]; exact hil), List.all_cons]
    have hbt := bt_list b i hil
    have hs := isSign_iff (b.data.toList[i]'(by rw [size_list]; exact hil))
    rw [← hbt] at hs
    have w1 : wrap64 ((i : Int) + 1) = ((i + 1 : Nat) : Int) := by rw [w64 (by omega) (by omega)]; rfl
    cases hsg : isSign (b.data.toList[i]'(by rw [size_list]; exact hil)) with
    | true =>
      rw [Bool.true_and]
      refine Ev.step (fun k => ?_) h
      rw [spec_siSigns.l0, if_pos (by omega), if_pos (by omega), w1]
      rcases hs.1 hsg with e | e | e
      · rw [if_pos e]
      · rw [if_neg (by omega), if_pos e]
      · rw [if_neg (by omega), if_neg (by omega), if_pos e]
    | false =>
      rw [Bool.false_and]
      refine Ev.one fun k => ?_
      have hn : ¬ (bt b (i : Int) = 43 ∨ bt b (i : Int) = 45 ∨ bt b (i : Int) = 48) := fun h => by rw [hs.2 h] at hsg; cases hsg
      rw [spec_siSigns.l0, if_pos (by omega), if_pos (by omega), if_neg (fun e => hn (.inl e)), if_neg (fun e => hn (.inr (.inl e))), if_neg (fun e => hn (.inr (.inr e)))]
theorem siSigns_ev (b : ByteArray) (n : Int) (hb : b.size ≤ 2000000) : Ev (fun k => spec_siSigns.f k b n) (decide ((b.size : Int) = n) && signsB b) := by
  unfold spec_siSigns.f
  by_cases h : (b.size : Int) = n
  · rw [decide_eq_true h, Bool.true_and]
    exact Ev.if_pos' h (siSigns_loop b hb b.size 0 (by omega) (by omega))
  · rw [decide_eq_false h, Bool.false_and]
    exact Ev.if_neg' h (Ev.now _)
theorem worth_one (u : Int) : impl_worth.f 1 u = spec_siOf.f u := by
  unfold impl_worth.f spec_siOf.f
  have : wrap64 (-1) = -1 := w64 (by omega) (by omega)
  rw [this]

end Go.Proofs.YtgcpjjifiebijaaDoor.Pure
