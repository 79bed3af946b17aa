/- The program's LieTold answers as the reference's does, for all cards and all answers. -/
import Derived.Test.YtpekdmadmggbpaaDoorLies0
import Derived.Test.YtpekdmadmggbpaaDoorGx16
import Derived.Test.YtpekdmadmggbpaaDoorGx13
import Derived.Test.YtpekdmadmggbpaaDoorGx15
namespace Go.Proofs.YtpekdmadmggbpaaDoor.Pure
open Go.RowKit Go.Proofs.YtpekdmadmggbpaaDoor.G Go.Proofs.YtpekdmadmggbpaaDoorW.PrintWords Go.Proofs.YtpekdmadmggbpaaDoorW.PrintLast

theorem LieTold_loop (a b : ByteArray) (L : List Int) (hL : 0 < L.length) (hab : a.size ≤ b.size) (hs : a.size ≤ 1000000) (d : Nat) : ∀ i : Nat, a.size - i = d → i ≤ a.size →
    Ev (fun k => impl_LieTold.l0 k b L a (a.size : Int) (i : Int)) (rd L 0, dF (a.data.toList.drop i) (b.data.toList.drop i) (i : Int), true) := by
  induction d with
  | zero =>
    intro i hd hi
    rw [List.drop_of_length_le (by rw [size_list']; omega)]
    refine Ev.one fun k => ?_
    rw [impl_LieTold.l0, if_neg (by omega), if_pos (by omega)]
    unfold dF
    rfl
  | succ d ih =>
    intro i hd hi
    have hil : i < a.size := by omega
    have hw : wrap64 ((i : Int) + 1) = ((i + 1 : Nat) : Int) := w64 (by omega) (by omega)
    rw [List.drop_eq_getElem_cons (by rw [size_list']; exact hil), List.drop_eq_getElem_cons (l := b.data.toList) (by rw [size_list']; omega), dF]
    have hb := bt_eq_iff a b i hil (by omega)
    by_cases h : bt a (i : Int) = bt b (i : Int)
    · rw [if_pos (hb.1 h)]
      refine Ev.step (fun k => ?_) (ih (i + 1) (by omega) (by omega))
      rw [impl_LieTold.l0, if_pos (by omega), if_pos (by omega), if_pos (by omega), if_pos (by omega), if_pos h, hw]
    · rw [if_neg (fun e => h (hb.2 e))]
      refine Ev.one fun k => ?_
      rw [impl_LieTold.l0, if_pos (by omega), if_pos (by omega), if_pos (by omega), if_pos (by omega), if_neg h, if_pos (by omega)]
theorem LieTold_ev (n : Int) (l : List (List Int)) (hl : l.length ≤ 1048576) (hr : ∀ x ∈ l, x.length ≤ 1048576) (b : ByteArray) : ∃ r : Int × Int × Bool, Ev (fun k => spec_LieTold.f k n l b) r ∧ Ev (fun k => impl_LieTold.f k n l b) r := by
  unfold spec_LieTold.f impl_LieTold.f
  cases hq : asksB n l b with
  | false => exact ⟨_, Ev.bind (caAsked_ev n l hl hr b) (Ev.if_neg' (by simp [hq]) (Ev.now _)), Ev.bind (Lies_no n l b 1 hq hl hr) (Ev.if_neg' (by simp) (Ev.now _))⟩
  | true =>
    obtain ⟨hc, hs, _⟩ := asks_facts hq
    obtain ⟨hn, h12, hx⟩ := cards_facts hc
    have W := caWith_ev n l b 1 hc hr (by omega)
    have I := Lies_ev n l b 1 hq (by omega) hl hr
    have hin : ∀ x ∈ impl_cardOf.card (fits l b 1) n.toNat, fits l b 1 x = true := fun x hx => (List.mem_filter.1 hx).2
    generalize impl_cardOf.card (fits l b 1) n.toNat = L at W I hin
    by_cases h1 : (L.length : Int) = 1
    · have h0 : 0 < L.length := by omega
      have hf := hin (rd L 0) (by rw [show rd L 0 = L[0] from rd_eq L 0 h0]; exact List.getElem_mem h0)
      have hd : dN (ansT l (rd L 0)).data.toList b.data.toList ≤ 1 := of_decide_eq_true hf
      have S := apart_snd (ansT l (rd L 0)).data.toList b.data.toList 0 0 hd
      refine ⟨(rd L 0, dF (ansT l (rd L 0)).data.toList b.data.toList 0, true), Ev.bind (caAsked_ev n l hl hr b) (Ev.if_pos' hq (Ev.bind W (Ev.if_pos' h1 (Ev.if_pos' (by omega) (Ev.bind (caAnswers_ev n l h12 hr (rd L 0)) (Ev.const_bind (apart_eq l h12 (rd L 0) b (by omega)) ?_)))))), ?_⟩
      · rw [S]; exact Ev.now _
      · refine Ev.bind I (Ev.if_pos' h1 (Ev.if_pos' (by show 0 < (L.length : Int); omega) (Ev.bind (answers_ev n l h12 hr (fun x hx' => (hx x hx').1) (rd L 0)) ?_)))
        exact LieTold_loop (ansT l (rd L 0)) b L h0 (by rw [ansT_size]; omega) (by rw [ansT_size]; omega) (ansT l (rd L 0)).size 0 (by omega) (by omega)
    · exact ⟨_, Ev.bind (caAsked_ev n l hl hr b) (Ev.if_pos' hq (Ev.bind W (Ev.if_neg' h1 (Ev.now _)))), Ev.bind I (Ev.if_neg' h1 (Ev.now _))⟩

theorem FnExactLieTold : ∀ (n : Int) (l : List (List Int)) (a : ByteArray), (Lit.int .i64 n).wf = true → l.length ≤ maxLen → (∀ x ∈ l, x.length ≤ maxLen ∧ ∀ y ∈ x, (Lit.int .i64 y).wf = true) → a.size ≤ 140737488351232 → ∃ k, laws_FnExactLieTold.f k n l a = some true := by
  intro n l a _ hmax hin _
  unfold maxLen at hmax
  obtain ⟨r, h1, h2⟩ := szCards_ev n l (by omega) (fun x hx => by have := (hin x hx).1; unfold maxLen at this; omega)
  apply Ev.rounds
  unfold laws_FnExactLieTold.f
  by_cases hbig : (a.size : Int) > 1048576
  · exact Ev.if_pos' hbig (Ev.now _)
  refine Ev.if_neg' hbig (Ev.bind h1 ?_)
  rcases h2 with h2 | ⟨h2, hl, hr⟩
  · exact Ev.if_pos' h2 (Ev.now _)
  · have ht := toCards_ev l hl hr n
    obtain ⟨s, hs, hi⟩ := LieTold_ev n l hl hr a
    refine Ev.if_neg' h2 (Ev.bind ht (Ev.bind hs (Ev.bind ht (Ev.bind hi (Ev.if_pos' rfl (Ev.if_pos' rfl ?_))))))
    rw [show (s.2.2 != s.2.2) = false by simp]
    exact Ev.step (fun k => by rw [laws_FnExactLieTold.j0, if_neg (by simp)]) (Ev.bind ht (Ev.bind (eqCards_ev l hl hr n) (Ev.if_pos' rfl (Ev.now _))))

end Go.Proofs.YtpekdmadmggbpaaDoor.Pure
