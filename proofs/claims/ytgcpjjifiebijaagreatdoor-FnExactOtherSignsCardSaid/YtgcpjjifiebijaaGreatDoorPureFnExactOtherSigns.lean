/- The program's OtherSigns answers as the reference's does, for every list and text. -/
import Derived.Test.YtgcpjjifiebijaaGreatDoorL
import Derived.Test.YtgcpjjifiebijaaGreatDoorGx12
import Derived.Test.YtgcpjjifiebijaaGreatDoorGx10
import Derived.Test.YtgcpjjifiebijaaGreatDoorGx11
import Derived.Test.YtgcpjjifiebijaaGreatDoorGx9
namespace Go.Proofs.YtgcpjjifiebijaaGreatDoor.Pure
open Go.RowKit Go.Proofs.YtgcpjjifiebijaaGreatDoor.G Go.Proofs.YtgcpjjifiebijaaGreatDoorW.PrintWords Go.Proofs.YtgcpjjifiebijaaGreatDoorW.PrintLast

theorem app_end (l : List UInt8) (u : UInt8) : (⟨l.toArray⟩ : ByteArray) ++ (⟨#[u]⟩ : ByteArray) = ⟨(l ++ [u]).toArray⟩ := by
  apply ByteArray.ext
  rw [ByteArray.data_append]
  simp
theorem siOther_loop (b : ByteArray) (hb : b.size ≤ 2000000) (hs : b.data.toList.all isSign = true) (d : Nat) : ∀ (i : Nat) (acc : List UInt8), b.size - i = d → i ≤ b.size → acc.length = i →
    Ev (fun k => spec_siOther.l0 k b (⟨acc.toArray⟩ : ByteArray) (i : Int)) ⟨(acc ++ (b.data.toList.drop i).map impl_negated.one).toArray⟩ := by
  induction d with
  | zero =>
    intro i acc hd hi _
    rw [List.drop_of_length_le (by rw [size_list]; omega)]
    exact Ev.one fun k => by rw [spec_siOther.l0, if_neg (by omega)]; simp
  | succ d ih =>
    intro i acc hd hi ha
    have hil : i < b.size := by omega
    have hil' : i < b.data.toList.length := by rw [size_list]; exact hil
    have hu : isSign b.data.toList[i] = true := List.all_eq_true.1 hs _ (List.getElem_mem hil')
    have hbt := bt_list b i hil
    rw [List.drop_eq_getElem_cons hil', List.map_cons]
    have go := ih (i + 1) (acc ++ [impl_negated.one b.data.toList[i]]) (by omega) (by omega) (by rw [List.length_append]; simp; omega)
    rw [List.append_assoc, List.singleton_append] at go
    have w1 : wrap64 ((i : Int) + 1) = ((i + 1 : Nat) : Int) := by rw [w64 (by omega) (by omega)]; rfl
    have hsz : (⟨acc.toArray⟩ : ByteArray).size + 1 ≤ 9223372036854775807 := by rw [size_arr]; omega
    refine Ev.step (fun k => ?_) go
    rw [spec_siOther.l0, if_pos (by omega), if_pos (by omega), w1, if_pos hsz, if_pos hsz, if_pos hsz, app_end, app_end, app_end, hbt]
    generalize b.data.toList[i] = u at hu
    rcases sign_cases hu with rfl | rfl | rfl <;> rfl
theorem siOther_ev (b : ByteArray) (hb : b.size ≤ 2000000) (hs : signsB b = true) : Ev (fun k => spec_siOther.f k b) (impl_negated.all b) := by
  have := siOther_loop b hb hs b.size 0 [] (by omega) (by omega) rfl
  rw [List.drop_zero, List.nil_append] at this
  unfold spec_siOther.f
  exact this
theorem OtherSigns_ev (l : List Int) (b : ByteArray) (hl : l.length ≤ 35184372088832) (hbs : b.size ≤ 2000000) : ∃ r, Ev (fun k => spec_OtherSigns.f k l b) r ∧ Ev (fun k => impl_OtherSigns.f k l b) r := by
  unfold spec_OtherSigns.f impl_OtherSigns.f
  have ha := areSigns_ev l b hl
  have hsi := siSigns_ev b (l.length : Int) hbs
  cases hf : fewB l with
  | false =>
    rw [hf] at ha
    exact ⟨_, Ev.bind (siFew_ev l hl) (Ev.if_neg' (by simp [hf]) (Ev.now _)), Ev.bind ha (Ev.if_neg' (by simp) (Ev.now _))⟩
  | true =>
    rw [hf, Bool.true_and] at ha
    cases hs : (decide ((b.size : Int) = (l.length : Int)) && signsB b) with
    | false =>
      rw [hs] at ha hsi
      exact ⟨_, Ev.bind (siFew_ev l hl) (Ev.if_pos' hf (Ev.bind hsi (Ev.if_neg' (by simp) (Ev.now _)))), Ev.bind ha (Ev.if_neg' (by simp) (Ev.now _))⟩
    | true =>
      rw [hs] at ha hsi
      have hsg : signsB b = true := by rw [Bool.and_eq_true] at hs; exact hs.2
      have hn : impl_negated.f b = some (impl_negated.all b) := by unfold impl_negated.f; rw [if_pos (by omega)]
      exact ⟨_, Ev.bind (siFew_ev l hl) (Ev.if_pos' hf (Ev.bind hsi (Ev.if_pos' rfl (Ev.bind (siOther_ev b hbs hsg) (Ev.now _))))), Ev.bind ha (Ev.if_pos' rfl (Ev.const_bind hn (Ev.now _)))⟩

theorem FnExactOtherSigns : laws_FnExactOtherSigns.Pure := by
  intro l b _ _ _ _
  by_cases h : (l.length : Int) > 1048576
  · exact ⟨0, by unfold laws_FnExactOtherSigns.f; rw [if_pos h]⟩
  by_cases h' : (b.size : Int) > 1048576
  · exact ⟨0, by unfold laws_FnExactOtherSigns.f; rw [if_neg h, if_pos h']⟩
  have hl : l.length ≤ 35184372088832 := by omega
  obtain ⟨r, hs, hi⟩ := OtherSigns_ev l b hl (by omega)
  apply Ev.rounds
  unfold laws_FnExactOtherSigns.f
  refine Ev.if_neg' h (Ev.if_neg' h' (Ev.bind (toIntS_ev l hl) (Ev.bind hs (Ev.bind (toIntS_ev l hl) (Ev.bind hi (Ev.if_pos' rfl ?_))))))
  rw [show (r.2 != r.2) = false by simp]
  exact Ev.step (fun k => by rw [laws_FnExactOtherSigns.j0, if_neg (by simp)]) (same_rest l hl)

end Go.Proofs.YtgcpjjifiebijaaGreatDoor.Pure
