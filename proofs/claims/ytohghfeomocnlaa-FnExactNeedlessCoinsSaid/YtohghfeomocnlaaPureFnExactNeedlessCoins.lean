/- The program's NeedlessCoins answers as the reference's does, for every list. -/
import Derived.Test.YtohghfeomocnlaaFewer0
import Derived.Test.YtohghfeomocnlaaMark
import Derived.Test.YtohghfeomocnlaaGx20
import Derived.Test.YtohghfeomocnlaaGx18
import Derived.Test.YtohghfeomocnlaaGx19
namespace Go.Proofs.Ytohghfeomocnlaa.Pure
open Go.RowKit Go.Proofs.Ytohghfeomocnlaa.G Go.Proofs.YtohghfeomocnlaaW.PrintWords Go.Proofs.YtohghfeomocnlaaW.PrintLast

/-- The coins from the place i on that the others can pay. -/
def needless (l : List Int) : Nat → Nat → List Int
  | 0, _ => []
  | d + 1, i => if (few (l.eraseIdx i) (l.getD i 0).toNat).isSome = true then l.getD i 0 :: needless l d (i + 1) else needless l d (i + 1)
theorem needless_length (l : List Int) (d : Nat) : ∀ i, (needless l d i).length ≤ d := by
  induction d with
  | zero => intro i; simp [needless]
  | succ d ih =>
    intro i
    have := ih (i + 1)
    unfold needless
    split <;> simp <;> omega
section
variable (l : List Int) (hl : l.length ≤ 8) (hc : ∀ x ∈ l, 1 ≤ x ∧ x ≤ 1000)
include hl hc
omit hl in
theorem erase_mem (i : Nat) : ∀ x ∈ l.eraseIdx i, 1 ≤ x ∧ x ≤ 1000 := fun x hx => hc x (List.mem_of_mem_eraseIdx hx)
theorem spec_loop (d : Nat) : ∀ (i : Nat) (acc : List Int), l.length - i = d → i ≤ l.length → acc.length ≤ i →
    Ev (fun k => spec_NeedlessCoins.l0 k l acc l (l.length : Int) (i : Int)) (acc ++ needless l d i, true) := by
  induction d with
  | zero =>
    intro i acc hd hi ha
    refine Ev.one fun k => ?_
    rw [spec_NeedlessCoins.l0, if_neg (by omega)]
    simp [needless]
  | succ d ih =>
    intro i acc hd hi ha
    have hil : i < l.length := by omega
    have hci := hc l[i] (List.getElem_mem hil)
    have w1 : wrap64 ((i : Int) + 1) = ((i + 1 : Nat) : Int) := by rw [w64 (by omega) (by omega)]; rfl
    have hg : l.getD i 0 = l[i] := by simp [List.getD, hil]
    obtain ⟨m, hm⟩ : ∃ m : Nat, l[i] = m := ⟨l[i].toNat, by omega⟩
    have hel : (l.eraseIdx i).length = l.length - 1 := by rw [List.length_eraseIdx, if_pos hil]
    have hfw := cnFewer_ev (l.eraseIdx i) (erase_mem l hc i) (by omega) m (by omega)
    have e1 : l.take (i : Int).toNat ++ l.drop (((i + 1 : Nat) : Int)).toNat = l.eraseIdx i := by rw [Int.toNat_natCast, Int.toNat_natCast, List.eraseIdx_eq_take_drop_succ]
    have hlen : (l.take (i : Int).toNat).length + (l.drop (((i + 1 : Nat) : Int)).toNat).length < 17592186044416 := by simp; omega
    have hrd : rd ((fewT (l.eraseIdx i) m).map encS) (m : Int) = encS (few (l.eraseIdx i) m) := tab_rd encS _ m m (by omega)
    have hno := ih (i + 1) acc (by omega) (by omega) (by omega)
    have hyes := ih (i + 1) (acc ++ [(m : Int)]) (by omega) (by omega) (by simp; omega)
    rw [List.append_assoc] at hyes
    refine Ev.step (f := fun k => (spec_cnFewer.f k (l.eraseIdx i) (m : Int)).bind fun t => if 0 ≤ (m : Int) then (if (m : Int) < (t.length : Int) then (if rd t (m : Int) ≥ 0 then (if acc.length < 17592186044416 then spec_NeedlessCoins.l0 k l (acc ++ [(m : Int)]) l (l.length : Int) ((i + 1 : Nat) : Int) else none) else spec_NeedlessCoins.l0 k l acc l (l.length : Int) ((i + 1 : Nat) : Int)) else none) else none) (fun k => ?_) ?_
    · rw [spec_NeedlessCoins.l0, if_pos (by omega), if_pos (by omega), if_pos (by omega), if_pos (by omega), l1Own_eq _ (by simp; omega), Option.bind_some, w1, if_pos (by omega), if_pos (by omega), if_pos hlen, e1, rd_eq l i hil, hm]
    · refine Ev.bind hfw (Ev.if_pos' (by omega) (Ev.if_pos' (by simp [fewT_length]; omega) ?_))
      rw [hrd, needless, hg, hm, Int.toNat_natCast]
      cases few (l.eraseIdx i) m with
      | none => exact Ev.if_neg' (by simp [encS]) (by simpa using hno)
      | some n => exact Ev.if_pos' (by simp [encS]) (Ev.if_pos' (by omega) (by simpa using hyes))
theorem impl_loop (d : Nat) : ∀ (i : Nat) (acc : List Int), l.length - i = d → i ≤ l.length → acc.length ≤ i →
    Ev (fun k => impl_NeedlessCoins.l0 k l acc l (l.length : Int) (i : Int)) (acc ++ needless l d i, true) := by
  induction d with
  | zero =>
    intro i acc hd hi ha
    refine Ev.one fun k => ?_
    rw [impl_NeedlessCoins.l0, if_neg (by omega)]
    simp [needless]
  | succ d ih =>
    intro i acc hd hi ha
    have hil : i < l.length := by omega
    have hci := hc l[i] (List.getElem_mem hil)
    have w1 : wrap64 ((i : Int) + 1) = ((i + 1 : Nat) : Int) := by rw [w64 (by omega) (by omega)]; rfl
    have hg : l.getD i 0 = l[i] := by simp [List.getD, hil]
    obtain ⟨m, hm⟩ : ∃ m : Nat, l[i] = m := ⟨l[i].toNat, by omega⟩
    have hel : (l.eraseIdx i).length = l.length - 1 := by rw [List.length_eraseIdx, if_pos hil]
    have hwo : impl_without.f l (i : Int) = some (l.eraseIdx i) := by
      unfold impl_without.f
      rw [if_pos ⟨by omega, by omega, by omega⟩, Int.toNat_natCast]
    have hfw := fewStamps_ev (l.eraseIdx i) (erase_mem l hc i) (by omega) m (by omega)
    have hrd : rd ((fewT (l.eraseIdx i) m).map (encP m)) (m : Int) = encP m (few (l.eraseIdx i) m) := tab_rd (encP m) _ m m (by omega)
    have hle := few_le (l.eraseIdx i) (fun x hx => (erase_mem l hc i x hx).1) m
    have hno := ih (i + 1) acc (by omega) (by omega) (by omega)
    have hyes := ih (i + 1) (acc ++ [(m : Int)]) (by omega) (by omega) (by simp; omega)
    rw [List.append_assoc] at hyes
    refine Ev.step (f := fun k => (impl_fewStamps.f k (l.eraseIdx i) (m : Int)).bind fun t => if 0 ≤ (m : Int) then (if (m : Int) < (t.length : Int) then (if rd t (m : Int) ≤ (m : Int) then (if acc.length < 17592186044416 then impl_NeedlessCoins.l0 k l (acc ++ [(m : Int)]) l (l.length : Int) ((i + 1 : Nat) : Int) else none) else impl_NeedlessCoins.l0 k l acc l (l.length : Int) ((i + 1 : Nat) : Int)) else none) else none) (fun k => ?_) ?_
    · rw [impl_NeedlessCoins.l0, if_pos (by omega), if_pos (by omega), if_pos (by omega), hwo, Option.bind_some, w1, rd_eq l i hil, hm]
    · refine Ev.bind hfw (Ev.if_pos' (by omega) (Ev.if_pos' (by simp [fewT_length]; omega) ?_))
      rw [hrd, needless, hg, hm, Int.toNat_natCast]
      cases hf : few (l.eraseIdx i) m with
      | none => exact Ev.if_neg' (by simp only [encP]; omega) (by simpa using hno)
      | some n => have := hle n hf; exact Ev.if_pos' (by simp only [encP]; omega) (Ev.if_pos' (by omega) (by simpa using hyes))
end
theorem NeedlessCoins_ev (l : List Int) (hl : l.length ≤ 35184372088832) : ∃ r : List Int × Bool, r.1.length ≤ 8 ∧ Ev (fun k => spec_NeedlessCoins.f k l) r ∧ Ev (fun k => impl_NeedlessCoins.f k l) r := by
  unfold spec_NeedlessCoins.f impl_NeedlessCoins.f
  cases hco : coinsB l with
  | false => exact ⟨_, by simp, Ev.bind (cnGood_ev l hl) (Ev.if_neg' (by simp [hco]) (Ev.now _)), Ev.bind (AreCoins_ev l hl) (Ev.if_neg' (by simp [hco]) (Ev.now _))⟩
  | true =>
    have hc := coins_mem hco
    have hlen := coins_len hco
    have hn := needless_length l l.length 0
    refine ⟨(needless l l.length 0, true), by simp only; omega, Ev.bind (cnGood_ev l hl) (Ev.if_pos' hco ?_), Ev.bind (AreCoins_ev l hl) (Ev.if_pos' hco ?_)⟩
    · simpa using spec_loop l hlen.2 hc l.length 0 [] (by omega) (by omega) (by simp)
    · simpa using impl_loop l hlen.2 hc l.length 0 [] (by omega) (by omega) (by simp)

theorem FnExactNeedlessCoins : laws_FnExactNeedlessCoins.Pure := by
  intro l _ _ _
  by_cases h : (l.length : Int) > 1048576
  · exact ⟨0, by unfold laws_FnExactNeedlessCoins.f; rw [if_pos h]⟩
  have hl : l.length ≤ 35184372088831 := by omega
  obtain ⟨r, hr, hs, hi⟩ := NeedlessCoins_ev l (by omega)
  have hl' : l.length ≤ 35184372088832 := by omega
  have hr1 : r.1.length ≤ 35184372088831 := by omega
  have hr2 : r.1.length ≤ 35184372088832 := by omega
  have ne : (r.2 != r.2) = false := by simp
  apply Ev.rounds
  unfold laws_FnExactNeedlessCoins.f
  refine Ev.if_neg' h (Ev.bind (toIntS_ev l hl') (Ev.bind hs (Ev.bind (toIntS_ev l hl') (Ev.bind hi (Ev.bind (eqIntS_self r.1 hr2) (Ev.if_pos' rfl ?_))))))
  rw [ne]
  refine Ev.step (fun k => by rw [laws_FnExactNeedlessCoins.j0, if_neg (by simp)]) ?_
  refine Ev.bind (toIntS_ev l hl') (Ev.bind (eqIntS_self l hl') (Ev.if_pos' rfl (Ev.bind (mark_ev l hl) (Ev.if_neg' (by simp only; omega) (Ev.bind (eqIntS_self r.1 hr2) (Ev.if_pos' rfl ?_))))))
  rw [ne]
  refine Ev.step (fun k => by rw [laws_FnExactNeedlessCoins.j1, if_neg (by simp)]) ?_
  refine Ev.bind (mark_ev r.1 hr1) (Ev.bind (held_ev r.1.length hr1) (Ev.if_neg' (by omega) (Ev.if_pos' rfl (Ev.bind (toIntS_ev l hl') (Ev.bind hi (Ev.bind (eqIntS_self r.1 hr2) (Ev.if_pos' rfl ?_)))))))
  rw [ne]
  refine Ev.step (fun k => by rw [laws_FnExactNeedlessCoins.j2, if_neg (by simp)]) ?_
  exact Ev.bind (held_ev r.1.length hr1) (Ev.if_neg' (by omega) (Ev.if_pos' rfl (Ev.now _)))


end Go.Proofs.Ytohghfeomocnlaa.Pure
