/- The program's GreatestUnpaid answers as the reference's does, for every list. -/
import Derived.Test.YtohghfeomocnlaaEL
import Derived.Test.YtohghfeomocnlaaEx8
import Derived.Test.YtohghfeomocnlaaEx5
namespace Go.Proofs.Ytohghfeomocnlaa.Pure
open Go.RowKit Go.Proofs.Ytohghfeomocnlaa.E Go.Proofs.YtohghfeomocnlaaW.PrintWords Go.Proofs.YtohghfeomocnlaaW.PrintLast

theorem unpL_none (l : List Int) (n : Nat) (h : ∀ v, unp l v = false) : unpL l n = [] := by
  induction n with
  | zero => rfl
  | succ n ih => rw [unpL_succ, if_neg (by simp [h]), ih]
theorem unpL_last (l : List Int) (g : Nat) (hg : unp l g = true) (h : ∀ v, unp l v = true → v ≤ g) (n : Nat) : g < n → ∃ A, unpL l n = A ++ [(g : Int)] := by
  induction n with
  | zero => intro hn; omega
  | succ n ih =>
    intro hn
    rw [unpL_succ]
    by_cases e : n = g
    · subst e; rw [if_pos hg]; exact ⟨_, rfl⟩
    · rw [if_neg (fun hh => by have := h n hh; omega)]
      exact ih (by omega)
theorem GreatestUnpaid_ev (l : List Int) (hl : l.length ≤ 35184372088832) : ∃ r, Ev (fun k => spec_GreatestUnpaid.f k l) r ∧ Ev (fun k => impl_GreatestUnpaid.f k l) r := by
  unfold spec_GreatestUnpaid.f impl_GreatestUnpaid.f
  have no1 : Ev (fun k => spec_GreatestUnpaid.j0 k l true) (0, false) := Ev.one fun k => by rw [spec_GreatestUnpaid.j0, if_pos rfl]
  rcases residues_ev l hl with ⟨h1, h2⟩ | ⟨h1, h2, h3⟩ | ⟨h1, h2, L, h3, h4, h5⟩
  · exact ⟨(0, false), Ev.bind (cnGood_ev l hl) (Ev.if_neg' (by simp [h1]) no1), Ev.bind h2 (Ev.if_neg' (by simp) (Ev.now _))⟩
  · refine ⟨(0, false), Ev.bind (cnGood_ev l hl) (Ev.if_pos' h1 (Ev.bind (cnCommon_ev l hl (coins_mem h1)) ?_)), Ev.bind h3 (Ev.if_neg' (by simp) (Ev.now _))⟩
    rw [show (((gcds 0 l : Nat) : Int) != 1) = true by simp; omega]
    exact no1
  · have hc := coins_mem h1
    have hlen := coins_len h1
    have hb0 := hc l[0] (List.getElem_mem (by omega))
    have e0 : l.getD 0 0 = l[0] := by simp [List.getD, show 0 < l.length by omega]
    have hU := cnUnpaid_ev l h1
    rw [e0] at h3 h4 hU
    obtain ⟨m, hm⟩ : ∃ m : Nat, l[0] = m := ⟨l[0].toNat, by omega⟩
    rw [hm, Int.toNat_natCast] at h3 h4 hU
    have hml : (m : Int) ∈ l := by rw [← hm]; exact List.getElem_mem _
    have hmb := hc _ hml
    have hc0 : rd l 0 = (m : Int) := by rw [show (0 : Int) = ((0 : Nat) : Int) by rfl, rd_eq l 0 (by omega), hm]
    obtain ⟨f, hf⟩ := least_of l h1 m hml h2 L h3 h4
    have hl1 := hc (l.getD (l.length - 1) 0) (by simp [List.getD, show l.length - 1 < l.length by omega])
    have ht : top l ≤ 1000 := by unfold top; omega
    have hmul : (m - 1) * top l ≤ 1000 * 1000 := Nat.mul_le_mul (by omega) ht
    have hmul2 := Nat.mul_le_mul_right (top l) (show m - 1 ≤ m by omega)
    have hLl := hf.len
    obtain ⟨M, hM1, hM2, hM3⟩ := max_ev L (by omega) (by omega)
    obtain ⟨r0, hr0, hMr⟩ := List.getElem_of_mem hM2
    have hMf : M = (f r0 : Int) := by
      have := hf.val r0 (by omega)
      rw [← this, ← hMr]; simp [List.getD, hr0]
    have hall : ∀ r, r < m → (f r : Int) ≤ M := fun r hr => by
      have h6 := hf.val r hr
      have hrl : r < L.length := by omega
      rw [← h6]
      refine hM3 _ ?_
      simp [List.getD, hrl]
    have hsm := hf.small r0 (by omega)
    have hlow : (m : Int) - 1 ≤ M := by
      have h6 := hall (m - 1) (by omega)
      have h7 := hf.res (m - 1) (by omega)
      have h8 := Nat.mod_le (f (m - 1)) m
      omega
    have himpl : Ev (fun k => (impl_residues.f k l).bind fun bt422 => (if bt422.2 = true then ((slices_Max_int_int.f k bt422.1).bind fun t426 => (if 0 < (l.length : Int) then (some (wrap64 (t426 - (rd l 0)), true)) else (none))) else (some (0, false)))) (M - (m : Int), true) := by
      refine Ev.bind h5 (Ev.if_pos' rfl (Ev.bind hM1 (Ev.if_pos' (by omega) ?_)))
      rw [hc0, w64 (by omega) (by omega)]
      exact Ev.now _
    have hspec : ∀ r, Ev (fun k => (spec_cnUnpaid.f k l).bind fun t418 => (if (t418.length : Int) = 0 then (some ((-1), true)) else (if 0 ≤ (wrap64 ((t418.length : Int) - 1)) then (if (wrap64 ((t418.length : Int) - 1)) < (t418.length : Int) then (some (rd t418 (wrap64 ((t418.length : Int) - 1)), true)) else (none)) else (none)))) r → Ev (fun k => (spec_cnGood.f k l).bind fun t416 => (if t416 = true then ((spec_cnCommon.f k l).bind fun t417 => (spec_GreatestUnpaid.j0 k l (t417 != 1))) else (spec_GreatestUnpaid.j0 k l true))) r := fun r h => by
      refine Ev.bind (cnGood_ev l hl) (Ev.if_pos' h1 (Ev.bind (cnCommon_ev l hl hc) ?_))
      rw [show (((gcds 0 l : Nat) : Int) != 1) = false by rw [h2]; rfl]
      exact Ev.step (fun k => by rw [spec_GreatestUnpaid.j0, if_neg (by simp)]) h
    refine ⟨(M - (m : Int), true), hspec _ ?_, himpl⟩
    have hup : ∀ v, unp l v = true → (v : Int) ≤ M - m := fun v hv => by
      have h6 := (hf.unp_iff v).1 hv
      have hvm : v % m < m := Nat.mod_lt _ (by omega)
      have h7 := hf.res (v % m) hvm
      have h8 := hall (v % m) hvm
      have e1 := Nat.mod_add_div v m
      have e2 := Nat.mod_add_div (f (v % m)) m
      rw [h7] at e2
      have h9 : v / m < f (v % m) / m := by
        apply Classical.byContradiction
        intro hn
        have := Nat.mul_le_mul_left m (show f (v % m) / m ≤ v / m by omega)
        omega
      have := Nat.mul_le_mul_left m (show v / m + 1 ≤ f (v % m) / m by omega)
      rw [Nat.mul_succ] at this
      omega
    refine Ev.bind hU ?_
    by_cases hbig : (m : Int) ≤ M
    · obtain ⟨g, hg⟩ : ∃ g : Nat, M - (m : Int) = g := ⟨(M - m).toNat, by omega⟩
      have hfg : f r0 = g + m := by omega
      have hgr : g % m = r0 := by
        have := hf.res r0 (by omega)
        rw [hfg, Nat.add_mod_right] at this
        exact this
      have hug : unp l g = true := (hf.unp_iff g).2 (by rw [hgr]; omega)
      obtain ⟨A, hA⟩ := unpL_last l g hug (fun v hv => by have := hup v hv; omega) (m * top l + 1) (by omega)
      have hAl := unpL_length l (m * top l + 1)
      have hmt : m * top l ≤ 1000 * 1000 := Nat.mul_le_mul (by omega) ht
      rw [hA] at hAl ⊢
      rw [List.length_append, List.length_singleton] at hAl
      have hlenA : (((A ++ [(g : Int)]).length : Nat) : Int) = (A.length : Int) + 1 := by simp
      have w1 : wrap64 ((A.length : Int) + 1 - 1) = (A.length : Int) := by rw [w64 (by omega) (by omega)]; omega
      rw [hlenA, w1, rd_app_at, hg]
      clear hlenA w1
      exact Ev.if_neg' (by omega) (Ev.if_pos' (by omega) (Ev.if_pos' (by omega) (Ev.now _)))
    · have hnone := unpL_none l (m * top l + 1) (fun v => by
        cases hv : unp l v with
        | false => rfl
        | true => have := hup v hv; omega)
      rw [hnone, show M - (m : Int) = -1 by omega]
      exact Ev.if_pos' (by simp) (Ev.now _)

theorem FnExactGreatestUnpaid : laws_FnExactGreatestUnpaid.Pure := by
  intro l _ _ _
  by_cases h : (l.length : Int) > 1048576
  · exact ⟨0, by unfold laws_FnExactGreatestUnpaid.f; rw [if_pos h]⟩
  have hl : l.length ≤ 35184372088832 := by omega
  obtain ⟨r, hs, hi⟩ := GreatestUnpaid_ev l hl
  apply Ev.rounds
  unfold laws_FnExactGreatestUnpaid.f
  refine Ev.if_neg' h (Ev.bind (toIntS_ev l hl) (Ev.bind hs (Ev.bind (toIntS_ev l hl) (Ev.bind hi (Ev.if_pos' rfl ?_)))))
  rw [show (r.2 != r.2) = false by simp]
  exact Ev.step (fun k => by rw [laws_FnExactGreatestUnpaid.j0, if_neg (by simp)]) (same_end l hl)

end Go.Proofs.Ytohghfeomocnlaa.Pure
