/- The program's CountChange answers as the reference's does, for every list and amount. -/
import Derived.Test.YtohghfeomocnlaaCoin1
import Derived.Test.YtohghfeomocnlaaGx7
import Derived.Test.YtohghfeomocnlaaGx4
import Derived.Test.YtohghfeomocnlaaGx6
import Derived.Test.YtohghfeomocnlaaGx3
namespace Go.Proofs.Ytohghfeomocnlaa.Pure
open Go.RowKit Go.Proofs.Ytohghfeomocnlaa.G Go.Proofs.YtohghfeomocnlaaW.PrintWords Go.Proofs.YtohghfeomocnlaaW.PrintLast

theorem least_mn (a b : Int) : spec_l1Least.f a b = some (mn a b) := by
  unfold spec_l1Least.f mn
  by_cases h : a < b <;> by_cases h' : a ≤ b <;> simp [h, h'] <;> omega

theorem count_same : ∀ k, (∀ a t x y z, spec_CountChange.l0 k a t x y z = impl_CountChange.l0 k a t x y z) ∧ (∀ a t x y z u v, spec_CountChange.l1 k a t x y z u v = impl_CountChange.l1 k a t x y z u v)
  | 0 => ⟨fun _ _ _ _ _ => by rw [spec_CountChange.l0, impl_CountChange.l0], fun _ _ _ _ _ _ _ => by rw [spec_CountChange.l1, impl_CountChange.l1]⟩
  | k + 1 => by
    obtain ⟨h0, h1⟩ := count_same k
    constructor
    · intro a t x y z
      rw [spec_CountChange.l0, impl_CountChange.l0]
      simp only [h1]
    · intro a t x y z u v
      rw [spec_CountChange.l1, impl_CountChange.l1]
      simp only [h0, h1, least_mn, Option.bind_some]

def Tot (g : Nat → Option (Int × Bool)) : Prop := ∃ r, Ev g r
theorem Tot.step {g f : Nat → Option (Int × Bool)} (h : ∀ k, g (k + 1) = f k) : Tot f → Tot g := fun ⟨r, hr⟩ => ⟨r, Ev.step h hr⟩

theorem count1_tot (a : Int) (ha : 0 ≤ a ∧ a ≤ 20000) (l : List Int) (c : Int) (hc : 1 ≤ c ∧ c ≤ 1000) (n i : Int)
    (next : ∀ t : List Int, (t.length : Int) = a + 1 → Tot (fun k => impl_CountChange.l0 k a t l n (wrap64 (i + 1)))) (d : Nat) :
    ∀ (t : List Int) (x : Int), (t.length : Int) = a + 1 → c ≤ x → (a + 1 - x).toNat = d → x ≤ a + 1001 → Tot (fun k => impl_CountChange.l1 k a t c x l n i) := by
  induction d with
  | zero =>
    intro t x ht hx hd hx'
    refine Tot.step (fun k => ?_) (next t ht)
    rw [impl_CountChange.l1, if_neg (by omega)]
  | succ d ih =>
    intro t x ht hx hd hx'
    have e : wrap64 (x - c) = x - c := w64 (by omega) (by omega)
    refine Tot.step (f := fun k => impl_CountChange.l1 k a (t.set (x : Int).toNat (mn (wrap64 ((rd t x) + (rd t (wrap64 (x - c))))) 1000000000000001)) c (x + 1) l n i) (fun k => ?_) (ih _ _ (by simpa using ht) (by omega) (by omega) (by omega))
    rw [impl_CountChange.l1, if_pos (by omega), if_pos (by omega), if_pos (by omega), if_pos (by rw [e]; omega), if_pos (by rw [e]; omega), w64 (x := x + 1) (by omega) (by omega)]
theorem count0_tot (a : Int) (ha : 0 ≤ a ∧ a ≤ 20000) (l : List Int) (hl : l.length ≤ 8) (hc : ∀ x ∈ l, 1 ≤ x ∧ x ≤ 1000) (d : Nat) :
    ∀ (i : Nat) (t : List Int), l.length - i = d → i ≤ l.length → (t.length : Int) = a + 1 → Tot (fun k => impl_CountChange.l0 k a t l (l.length : Int) (i : Int)) := by
  induction d with
  | zero =>
    intro i t hd hi ht
    refine ⟨if rd t a > 1000000000000000 then ((0 : Int), false) else (rd t a, true), Ev.one fun k => ?_⟩
    · rw [impl_CountChange.l0, if_neg (by omega), if_pos (by omega), if_pos (by omega)]
      by_cases h : rd t a > 1000000000000000
      · rw [if_pos h, if_pos h]
      · rw [if_neg h, if_neg h]
  | succ d ih =>
    intro i t hd hi ht
    have hil : i < l.length := by omega
    have hci := hc l[i] (List.getElem_mem hil)
    refine Tot.step (f := fun k => impl_CountChange.l1 k a t l[i] l[i] l (l.length : Int) (i : Int)) (fun k => ?_) ?_
    · rw [impl_CountChange.l0, if_pos (by omega), if_pos (by omega), if_pos (by omega), rd_eq l i hil]
    · refine count1_tot a ha l l[i] hci _ _ (fun t' ht' => ?_) (a + 1 - l[i]).toNat t l[i] ht (by omega) rfl (by omega)
      rw [show wrap64 ((i : Int) + 1) = ((i + 1 : Nat) : Int) by rw [w64 (by omega) (by omega)]; rfl]
      exact ih (i + 1) t' (by omega) (by omega) ht'

theorem FnExactCountChange : laws_FnExactCountChange.Pure := by
  intro l a hl _ _ _
  by_cases h : (l.length : Int) > 1048576
  · exact ⟨0, by unfold laws_FnExactCountChange.f; rw [if_pos h]⟩
  have hl : l.length ≤ 35184372088832 := by omega
  obtain ⟨r, hs, hi⟩ : ∃ r, Ev (fun k => spec_CountChange.f k l a) r ∧ Ev (fun k => impl_CountChange.f k l a) r := by
    unfold spec_CountChange.f impl_CountChange.f
    have hb1 := cnAsked_ev l a hl
    have hb2 := isAmount_ev l a hl
    cases hb : (coinsB l && decide (0 ≤ a ∧ a ≤ 20000)) with
    | false =>
      rw [hb] at hb1 hb2
      exact ⟨(0, false), Ev.bind hb1 (Ev.if_neg' (by simp) (Ev.now _)), Ev.bind hb2 (Ev.if_neg' (by simp) (Ev.now _))⟩
    | true =>
      rw [hb] at hb1 hb2
      simp only [Bool.and_eq_true, decide_eq_true_eq] at hb
      obtain ⟨hco, ha⟩ := hb
      have e : wrap64 (a + 1) = a + 1 := w64 (by omega) (by omega)
      obtain ⟨r, hr⟩ := count0_tot a ha l (coins_len hco).2 (coins_mem hco) l.length 0 ((List.replicate (wrap64 (a + 1)).toNat 0).set (0 : Int).toNat 1) (by omega) (by omega) (by rw [e]; simp; omega)
      refine ⟨r, Ev.bind hb1 (Ev.if_pos' rfl (Ev.if_pos' (by omega) (Ev.if_pos' (by omega) (Ev.some_bind (Ev.if_pos' (by rw [e]; simp; omega) ?_))))), Ev.bind hb2 (Ev.if_pos' rfl (Ev.if_pos' (by omega) (Ev.if_pos' (by omega) (Ev.some_bind (Ev.if_pos' (by rw [e]; simp; omega) hr)))))⟩
      exact Ev.congr (fun k => (count_same k).1 _ _ _ _ _) hr
  apply Ev.rounds
  unfold laws_FnExactCountChange.f
  refine Ev.if_neg' h (Ev.bind (toIntS_ev l hl) (Ev.bind hs (Ev.bind (toIntS_ev l hl) (Ev.bind hi (Ev.if_pos' rfl ?_)))))
  rw [show (r.2 != r.2) = false by simp]
  refine Ev.step (f := fun k => (laws_toIntS.f k l).bind fun t => (laws_eqIntS.f k l t).bind fun u => if u = true then some true else some false) (fun k => ?_) ?_
  · rw [laws_FnExactCountChange.j0, if_neg (by simp)]
  · exact Ev.bind (toIntS_ev l hl) (Ev.bind (eqIntS_self l hl) (Ev.if_pos' rfl (Ev.now _)))

end Go.Proofs.Ytohghfeomocnlaa.Pure
