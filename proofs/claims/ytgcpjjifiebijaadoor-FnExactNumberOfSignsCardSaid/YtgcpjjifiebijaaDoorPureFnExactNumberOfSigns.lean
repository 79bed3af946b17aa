/- The program's NumberOfSigns answers as the reference's does, for every text. -/
import Derived.Test.YtgcpjjifiebijaaDoorWithin0
import Derived.Test.YtgcpjjifiebijaaDoorSigns0
import Derived.Test.YtgcpjjifiebijaaDoorGx3
import Derived.Test.YtgcpjjifiebijaaDoorGx2
namespace Go.Proofs.YtgcpjjifiebijaaDoor.Pure
open Go.RowKit Go.Proofs.YtgcpjjifiebijaaDoor.G Go.Proofs.YtgcpjjifiebijaaDoorW.PrintWords Go.Proofs.YtgcpjjifiebijaaDoorW.PrintLast

theorem num_loop (b : ByteArray) (hb : b.size ≤ 13) (d : Nat) : ∀ (i : Nat) (x : Int), b.size - i = d → i ≤ b.size →
    ∃ r, Ev (fun k => spec_siNumber.l0 k b x (i : Int)) r ∧ Ev (fun k => impl_NumberOfSigns.l0 k b x (b.size : Int) (i : Int)) r := by
  induction d with
  | zero =>
    intro i x hd hi
    exact ⟨(x, true), Ev.one fun k => by rw [spec_siNumber.l0, if_neg (by omega)], Ev.one fun k => by rw [impl_NumberOfSigns.l0, if_neg (by omega)]⟩
  | succ d ih =>
    intro i x hd hi
    obtain ⟨s, hs⟩ : ∃ s, spec_siOf.f (bt b (i : Int)) = some s := by
      unfold spec_siOf.f
      split
      · exact ⟨_, rfl⟩
      · split <;> exact ⟨_, rfl⟩
    obtain ⟨r, h1, h2⟩ := ih (i + 1) (wrap64 (wrap64 (3 * x) + s)) (by omega) (by omega)
    have w1 : wrap64 ((i : Int) + 1) = ((i + 1 : Nat) : Int) := by rw [w64 (by omega) (by omega)]; rfl
    refine ⟨r, Ev.step (fun k => ?_) h1, Ev.step (fun k => ?_) h2⟩
    · rw [spec_siNumber.l0, if_pos (by omega), if_pos (by omega), hs, Option.bind_some, w1]
    · rw [impl_NumberOfSigns.l0, if_pos (by omega), if_pos (by omega), if_pos (by omega), worth_one, hs, Option.bind_some, w1]
theorem NumberOfSigns_ev (b : ByteArray) : ∃ r, Ev (fun k => spec_NumberOfSigns.f k b) r ∧ Ev (fun k => impl_NumberOfSigns.f k b) r := by
  have main : ∃ r, Ev (fun k => spec_siNumber.f k b) r ∧ Ev (fun k => impl_NumberOfSigns.f k b) r := by
    unfold spec_siNumber.f impl_NumberOfSigns.f
    have no1 : Ev (fun k => spec_siNumber.j0 k b true) (0, false) := Ev.one fun k => by rw [spec_siNumber.j0, if_pos rfl]
    have no2 : Ev (fun k => impl_NumberOfSigns.j0 k b true) (0, false) := Ev.one fun k => by rw [impl_NumberOfSigns.j0, if_pos rfl]
    by_cases hn : 1 ≤ (b.size : Int) ∧ (b.size : Int) ≤ 13
    · have hsz : b.size ≤ 13 := by omega
      obtain ⟨t, ht, hti⟩ := Trim_eq b (by omega)
      have hsi := siSigns_ev b (b.size : Int) (by omega)
      rw [decide_eq_true rfl, Bool.true_and] at hsi
      cases hsg : signsB b with
      | false =>
        rw [hsg] at hsi
        exact ⟨(0, false), Ev.const_bind (l1In_eq _ _ _) (Ev.if_pos' (decide_eq_true hn) (Ev.bind hsi (Ev.if_neg' (by simp) no1))),
          Ev.const_bind (within_eq _ _ _) (Ev.if_pos' (decide_eq_true hn) (Ev.const_bind ht (Ev.if_neg' (fun e => by rw [hti.1 e] at hsg; cases hsg) no2)))⟩
      | true =>
        rw [hsg] at hsi
        obtain ⟨r, h1, h2⟩ := num_loop b hsz b.size 0 0 (by omega) (by omega)
        have go1 : Ev (fun k => spec_siNumber.j0 k b false) r := Ev.step (fun k => by rw [spec_siNumber.j0, if_neg (by simp)]; rfl) h1
        have go2 : Ev (fun k => impl_NumberOfSigns.j0 k b false) r := Ev.step (fun k => by rw [impl_NumberOfSigns.j0, if_neg (by simp)]; rfl) h2
        have st1 : ∀ r', Ev (fun k => if (b.size : Int) > 1 then (if 0 < (b.size : Int) then (spec_siNumber.j0 k b ((bt b 0) == 48)) else (none)) else (spec_siNumber.j0 k b false)) r' → Ev (fun k => (spec_l1In.f (b.size : Int) 1 13).bind fun t101 => (if t101 = true then ((spec_siSigns.f k b (b.size : Int)).bind fun t102 => (if t102 = true then (if (b.size : Int) > 1 then (if 0 < (b.size : Int) then (spec_siNumber.j0 k b ((bt b 0) == 48)) else (none)) else (spec_siNumber.j0 k b false)) else (spec_siNumber.j0 k b true))) else (spec_siNumber.j0 k b true))) r' := fun r' h =>
          Ev.const_bind (l1In_eq _ _ _) (Ev.if_pos' (decide_eq_true hn) (Ev.bind hsi (Ev.if_pos' rfl h)))
        have st2 : ∀ r', Ev (fun k => if (bt b 0) = 48 then (impl_NumberOfSigns.j0 k b (decide ((b.size : Int) > 1))) else (impl_NumberOfSigns.j0 k b false)) r' → Ev (fun k => (impl_within.f (b.size : Int) 1 13).bind fun t106 => (if t106 = true then ((strings_Trim.f b (⟨#[43, 45, 48]⟩ : ByteArray)).bind fun t107 => (if t107.toList = ([] : List UInt8) then (if 0 < (b.size : Int) then (if (bt b 0) = 48 then (impl_NumberOfSigns.j0 k b (decide ((b.size : Int) > 1))) else (impl_NumberOfSigns.j0 k b false)) else (none)) else (impl_NumberOfSigns.j0 k b true))) else (impl_NumberOfSigns.j0 k b true))) r' := fun r' h =>
          Ev.const_bind (within_eq _ _ _) (Ev.if_pos' (decide_eq_true hn) (Ev.const_bind ht (Ev.if_pos' (hti.2 hsg) (Ev.if_pos' (by omega) h))))
        by_cases h48 : bt b 0 = 48
        · by_cases hone : (b.size : Int) > 1
          · refine ⟨(0, false), st1 _ (Ev.if_pos' hone (Ev.if_pos' (by omega) ?_)), st2 _ (Ev.if_pos' h48 ?_)⟩
            · rw [show (bt b 0 == 48) = true by rw [h48]; rfl]; exact no1
            · rw [decide_eq_true hone]; exact no2
          · refine ⟨r, st1 _ (Ev.if_neg' hone go1), st2 _ (Ev.if_pos' h48 ?_)⟩
            rw [decide_eq_false hone]; exact go2
        · refine ⟨r, st1 _ ?_, st2 _ (Ev.if_neg' h48 go2)⟩
          by_cases hone : (b.size : Int) > 1
          · refine Ev.if_pos' hone (Ev.if_pos' (by omega) ?_)
            rw [show (bt b 0 == 48) = false by simp [h48]]; exact go1
          · exact Ev.if_neg' hone go1
    · exact ⟨(0, false), Ev.const_bind (l1In_eq _ _ _) (Ev.if_neg' (by rw [decide_eq_false hn]; simp) no1), Ev.const_bind (within_eq _ _ _) (Ev.if_neg' (by rw [decide_eq_false hn]; simp) no2)⟩
  obtain ⟨r, h1, h2⟩ := main
  exact ⟨r, by unfold spec_NumberOfSigns.f; exact Ev.bind h1 (Ev.now _), h2⟩

theorem FnExactNumberOfSigns : laws_FnExactNumberOfSigns.Pure := by
  intro b _
  by_cases h : (b.size : Int) > 1048576
  · exact ⟨0, by unfold laws_FnExactNumberOfSigns.f; rw [if_pos h]⟩
  obtain ⟨r, hs, hi⟩ := NumberOfSigns_ev b
  apply Ev.rounds
  unfold laws_FnExactNumberOfSigns.f
  exact Ev.if_neg' h (Ev.bind hs (Ev.bind hi (Ev.if_pos' rfl (Ev.if_neg' (by simp) (Ev.now _)))))

end Go.Proofs.YtgcpjjifiebijaaDoor.Pure
