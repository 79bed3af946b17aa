/- Plain lemmas: cards: copies of them, their size, which are right, by the program and by the reference. -/
import Derived.Test.YtpekdmadmggbpaaDoorRise0
import Derived.Test.YtpekdmadmggbpaaDoorWithin0
import Derived.Test.YtpekdmadmggbpaaDoorGx4
import Derived.Test.YtpekdmadmggbpaaDoorGx6
import Derived.Test.YtpekdmadmggbpaaDoorGx1
import Derived.Test.YtpekdmadmggbpaaDoorGx2
import Derived.Test.YtpekdmadmggbpaaDoorGx5
namespace Go.Proofs.YtpekdmadmggbpaaDoor.Pure
open Go.RowKit Go.Proofs.YtpekdmadmggbpaaDoor.G Go.Proofs.YtpekdmadmggbpaaDoorW.PrintWords Go.Proofs.YtpekdmadmggbpaaDoorW.PrintLast

theorem rd_L2_at (l : List (List Int)) (i : Nat) (h : i < l.length) : rd_L1 l (i : Int) = l[i] := by simp [rd_L1, List.getD, h]
section
variable (l : List (List Int)) (hl : l.length ≤ 1048576) (hr : ∀ x ∈ l, x.length ≤ 1048576)
include hl hr
theorem toSS_loop (d : Nat) : ∀ i : Nat, l.length - i = d → i ≤ l.length →
    Ev (fun k => laws_toIntSS.l0 k l (l.take i ++ List.replicate (l.length - i) []) (i : Int)) l := by
  induction d with
  | zero =>
    intro i hd hi
    refine Ev.one fun k => ?_
    rw [laws_toIntSS.l0, if_neg (by omega), show l.length - i = 0 by omega, List.take_of_length_le (by omega)]
    simp
  | succ d ih =>
    intro i hd hi
    have hil : i < l.length := by omega
    have h := ih (i + 1) (by omega) (by omega)
    have hx := hr l[i] (List.getElem_mem hil)
    have e : (l.take i ++ List.replicate (l.length - i) []).set i l[i] = l.take (i + 1) ++ List.replicate (l.length - (i + 1)) [] := by
      rw [show l.length - i = (l.length - (i + 1)) + 1 by omega, List.replicate_succ, List.take_succ_eq_append_getElem hil, List.append_assoc]
      have ht : (l.take i).length = i := by rw [List.length_take]; omega
      have : ∀ (A : List (List Int)) (y z : List Int) (B : List (List Int)), A.length = i → (A ++ y :: B).set i z = A ++ z :: B := fun A y z B hA => by subst hA; simp
      rw [this _ _ _ _ ht]
      rfl
    rw [← e] at h
    refine Ev.step (f := fun k => (laws_toIntS.f k l[i]).bind fun t => laws_toIntSS.l0 k l ((l.take i ++ List.replicate (l.length - i) []).set i t) ((i + 1 : Nat) : Int)) (fun k => ?_) (Ev.bind (toIntS_ev l[i] (by omega)) h)
    rw [laws_toIntSS.l0, if_pos (by omega), if_pos (by omega), rd_L2_at l i hil, w64 (x := (i : Int) + 1) (by omega) (by omega)]
    congr 1
    funext t
    rw [if_pos (by rw [List.length_append, List.length_take, List.length_replicate]; omega), Int.toNat_natCast]
    rfl
theorem toCards_ev (n : Int) : Ev (fun k => laws_toCards.f k n l) (n, l) := by
  unfold laws_toCards.f laws_toIntSS.f
  refine Ev.bind (Ev.if_pos' (by omega) (Ev.if_pos' (by omega) ?_)) (Ev.now _)
  rw [Int.toNat_natCast]
  exact toSS_loop l hl hr l.length 0 (by omega) (by omega)
theorem eqSS_loop (d : Nat) : ∀ i : Nat, l.length - i = d → i ≤ l.length → Ev (fun k => laws_eqIntSS.l0 k l l (i : Int)) true := by
  induction d with
  | zero => intro i hd hi; exact Ev.one fun k => by rw [laws_eqIntSS.l0, if_neg (by omega)]
  | succ d ih =>
    intro i hd hi
    have hil : i < l.length := by omega
    have h := ih (i + 1) (by omega) (by omega)
    have hx := hr l[i] (List.getElem_mem hil)
    refine Ev.step (f := fun k => (laws_eqIntS.f k l[i] l[i]).bind fun t => if t = true then laws_eqIntSS.l0 k l l ((i + 1 : Nat) : Int) else some false) (fun k => ?_) (Ev.bind (eqIntS_self l[i] (by omega)) (Ev.if_pos' rfl h))
    rw [laws_eqIntSS.l0, if_pos (by omega), if_pos (by omega), if_pos (by omega), rd_L2_at l i hil, w64 (x := (i : Int) + 1) (by omega) (by omega)]
    rfl
theorem eqCards_ev (n : Int) : Ev (fun k => laws_eqCards.f k n l n l) true := by
  unfold laws_eqCards.f laws_eqIntSS.f
  exact Ev.if_pos' rfl (Ev.bind (a := true) (Ev.if_pos' rfl (eqSS_loop l hl hr l.length 0 (by omega) (by omega))) (Ev.if_pos' rfl (Ev.now _)))
end
theorem szS_eq (x : List Int) (b : Int) (hb : 0 ≤ b ∧ b ≤ 1048576) (hx : x.length ≤ 9223372036854775807) : laws_szIntS.f x b = if b < (x.length : Int) then some (-1) else some (b - (x.length : Int)) := by
  unfold laws_szIntS.f
  rw [w64 (by omega) (by omega)]
  by_cases h : b < (x.length : Int)
  · rw [if_pos (by omega), if_pos h]
  · rw [if_neg (by omega), if_neg h]
theorem szSS_loop (l : List (List Int)) (hl : l.length ≤ 1048576) (hr : ∀ x ∈ l, x.length ≤ 9223372036854775807) (d : Nat) : ∀ (i : Nat) (b : Int), l.length - i = d → i ≤ l.length → 0 ≤ b ∧ b ≤ 1048576 →
    ∃ r : Int, Ev (fun k => laws_szIntSS.l0 k l b (i : Int)) r ∧ (r < 0 ∨ (0 ≤ r ∧ ∀ j, i ≤ j → (h : j < l.length) → l[j].length ≤ 1048576)) := by
  induction d with
  | zero =>
    intro i b hd hi hb
    exact ⟨b, Ev.one fun k => by rw [laws_szIntSS.l0, if_neg (by omega)], .inr ⟨hb.1, fun j h1 h2 => by omega⟩⟩
  | succ d ih =>
    intro i b hd hi hb
    have hil : i < l.length := by omega
    have hx := hr l[i] (List.getElem_mem hil)
    have hs := szS_eq l[i] b hb hx
    by_cases hc : b < (l[i].length : Int)
    · rw [if_pos hc] at hs
      refine ⟨-1, Ev.one fun k => ?_, .inl (by omega)⟩
      rw [laws_szIntSS.l0, if_pos (by omega), if_pos (by omega), rd_L2_at l i hil, hs, Option.bind_some, if_pos (by omega)]
    · rw [if_neg hc] at hs
      obtain ⟨r, h1, h2⟩ := ih (i + 1) (b - (l[i].length : Int)) (by omega) (by omega) (by omega)
      refine ⟨r, Ev.step (fun k => ?_) h1, ?_⟩
      · rw [laws_szIntSS.l0, if_pos (by omega), if_pos (by omega), rd_L2_at l i hil, hs, Option.bind_some, if_neg (by omega), w64 (x := (i : Int) + 1) (by omega) (by omega)]
        rfl
      · rcases h2 with h | ⟨h3, h4⟩
        · exact .inl h
        · refine .inr ⟨h3, fun j hj hjl => ?_⟩
          by_cases e : j = i
          · subst e; omega
          · exact h4 j (by omega) hjl
/-- Cards that are too large are passed over. -/
theorem szCards_ev (n : Int) (l : List (List Int)) (hl : l.length ≤ 9223372036854775807) (hr : ∀ x ∈ l, x.length ≤ 9223372036854775807) :
    ∃ r : Int, Ev (fun k => laws_szCards.f k n l 1048576) r ∧ (r < 0 ∨ (¬ r < 0 ∧ l.length ≤ 1048576 ∧ ∀ x ∈ l, x.length ≤ 1048576)) := by
  unfold laws_szCards.f laws_szIntSS.f
  have w1 : wrap64 (1048576 - (l.length : Int)) = 1048576 - (l.length : Int) := w64 (by omega) (by omega)
  rw [w1]
  clear w1
  by_cases h : (1048576 : Int) - (l.length : Int) < 0
  · exact ⟨-1, Ev.bind (a := -1) (Ev.if_pos' h (Ev.now _)) (Ev.if_pos' (by omega) (Ev.now _)), .inl (by omega)⟩
  · obtain ⟨r, h1, h2⟩ := szSS_loop l (by omega) hr l.length 0 (1048576 - (l.length : Int)) (by omega) (by omega) (by omega)
    by_cases hr0 : r < 0
    · exact ⟨-1, Ev.bind (a := r) (Ev.if_neg' h h1) (Ev.if_pos' hr0 (Ev.now _)), .inl (by omega)⟩
    · refine ⟨r, Ev.bind (a := r) (Ev.if_neg' h h1) (Ev.if_neg' hr0 (Ev.now _)), .inr ⟨hr0, by omega, fun x hx => ?_⟩⟩
      rcases h2 with h3 | ⟨_, h4⟩
      · exact absurd h3 hr0
      · obtain ⟨j, hj, rfl⟩ := List.getElem_of_mem hx
        exact h4 j (by omega) hj

/-- What a card for n numbers is; what cards are. -/
def cardB (n : Int) (x : List Int) : Bool := inB 0 (n - 1) x && risesB x
def cardsB (n : Int) (l : List (List Int)) : Bool := decide (1 ≤ n ∧ n ≤ 128) && (decide ((l.length : Int) ≤ 12) && l.all (cardB n))
theorem isCard_ev (n : Int) (hn : 1 ≤ n ∧ n ≤ 128) (x : List Int) (hx : x.length ≤ 35184372088832) : Ev (fun k => impl_isCard.f k n x) (cardB n x) := by
  unfold impl_isCard.f cardB
  rw [w64 (x := n - 1) (by omega) (by omega)]
  refine Ev.const_bind (areWithin_eq x 0 (n - 1) hx) ?_
  cases inB 0 (n - 1) x with
  | false => exact Ev.if_neg' (by simp) (Ev.now _)
  | true => exact Ev.if_pos' rfl (Ev.bind (rises_ev x hx) (Ev.now _))
theorem all_ev (g : Nat → List Int → Option Bool) (b : List Int → Bool) (l : List (List Int)) (h : ∀ x ∈ l, Ev (fun k => g k x) (b x)) : ∃ K, ∀ k, K ≤ k → ∀ x ∈ l, g k x = some (b x) := by
  induction l with
  | nil => exact ⟨0, fun _ _ x hx => by simp at hx⟩
  | cons a t ih =>
    obtain ⟨K1, h1⟩ := ih (fun x hx => h x (List.mem_cons_of_mem _ hx))
    obtain ⟨K2, h2⟩ := h a List.mem_cons_self
    refine ⟨K1 + K2, fun k hk x hx => ?_⟩
    rcases List.mem_cons.1 hx with rfl | hx
    · exact h2 k (by omega)
    · exact h1 k (by omega) x hx
section
variable (n : Int) (l : List (List Int)) (hl : l.length ≤ 1048576) (hr : ∀ x ∈ l, x.length ≤ 1048576)
include hr in
theorem AreCards_ev : Ev (fun k => impl_AreCards.f k n l) (cardsB n l) := by
  unfold impl_AreCards.f cardsB
  refine Ev.const_bind (within_eq _ _ _) ?_
  by_cases hn : 1 ≤ n ∧ n ≤ 128
  · rw [decide_eq_true hn, Bool.true_and]
    refine Ev.if_pos' rfl ?_
    by_cases h12 : (l.length : Int) ≤ 12
    · rw [decide_eq_true h12, Bool.true_and]
      refine Ev.if_pos' h12 ?_
      obtain ⟨K, hK⟩ := all_ev (fun k x => impl_isCard.f k n x) (cardB n) l (fun x hx => isCard_ev n hn x (by have := hr x hx; omega))
      refine ⟨K, fun k hk => ?_⟩
      have h1 := hK k hk
      have hs : (l.all fun x => (impl_isCard.f k n x).isSome) = true := List.all_eq_true.2 fun x hx => by rw [h1 x hx]; rfl
      show (if (l.all fun x => (impl_isCard.f k n x).isSome) = true then some (l.all fun x => (impl_isCard.f k n x).getD false) else none) = some (l.all (cardB n))
      rw [if_pos hs]
      congr 1
      rw [Bool.eq_iff_iff, List.all_eq_true, List.all_eq_true]
      exact ⟨fun h x hx => by have := h x hx; rw [h1 x hx] at this; exact this, fun h x hx => by rw [h1 x hx]; exact h x hx⟩
    · rw [decide_eq_false h12, Bool.false_and]
      exact Ev.if_neg' h12 (Ev.now _)
  · rw [decide_eq_false hn, Bool.false_and]
    exact Ev.if_neg' (by simp) (Ev.now _)
include hl hr
theorem caGood_loop (hn : 1 ≤ n ∧ n ≤ 128) (d : Nat) : ∀ i : Nat, l.length - i = d → i ≤ l.length →
    Ev (fun k => spec_caGood.l0 k l (l.length : Int) (i : Int) n l) ((l.drop i).all (cardB n)) := by
  induction d with
  | zero =>
    intro i hd hi
    rw [List.drop_of_length_le (by omega)]
    exact Ev.one fun k => by rw [spec_caGood.l0, if_neg (by omega)]; rfl
  | succ d ih =>
    intro i hd hi
    have hil : i < l.length := by omega
    have h := ih (i + 1) (by omega) (by omega)
    have hx := hr l[i] (List.getElem_mem hil)
    rw [List.drop_eq_getElem_cons hil, List.all_cons]
    refine Ev.step (f := fun k => (spec_l1Rising.f k l[i] 0 (n - 1)).bind fun t => if t = true then spec_caGood.l0 k l (l.length : Int) ((i + 1 : Nat) : Int) n l else some false) (fun k => ?_) (Ev.bind (l1Rising_ev l[i] 0 (n - 1) (by omega)) ?_)
    · rw [spec_caGood.l0, if_pos (by omega), if_pos (by omega), if_pos (by omega), rd_L2_at l i hil, w64 (x := n - 1) (by omega) (by omega), w64 (x := (i : Int) + 1) (by omega) (by omega)]
      rfl
    · show Ev _ (cardB n l[i] && _)
      cases hc : cardB n l[i] with
      | true => exact Ev.if_pos' hc h
      | false => refine Ev.if_neg' (fun e => ?_) (Ev.now _); unfold cardB at hc; rw [e] at hc; cases hc
theorem caGood_ev : Ev (fun k => spec_caGood.f k n l) (cardsB n l) := by
  unfold spec_caGood.f cardsB
  have no : Ev (fun k => spec_caGood.j0 k true n l) false := Ev.one fun k => by rw [spec_caGood.j0, if_pos rfl]
  refine Ev.const_bind (l1In_eq _ _ _) ?_
  by_cases hn : 1 ≤ n ∧ n ≤ 128
  · rw [decide_eq_true hn, Bool.true_and]
    refine Ev.if_pos' rfl ?_
    by_cases h12 : (l.length : Int) ≤ 12
    · rw [decide_eq_true h12, Bool.true_and, show decide ((l.length : Int) > 12) = false from decide_eq_false (by omega)]
      refine Ev.step (fun k => ?_) (caGood_loop n l hl hr hn l.length 0 (by omega) (by omega))
      rw [spec_caGood.j0, if_neg (by simp)]
      rfl
    · rw [decide_eq_false h12, Bool.false_and, show decide ((l.length : Int) > 12) = true from decide_eq_true (by omega)]
      exact no
  · rw [decide_eq_false hn, Bool.false_and]
    exact Ev.if_neg' (by simp) no
end
theorem cards_facts {n : Int} {l : List (List Int)} (h : cardsB n l = true) : (1 ≤ n ∧ n ≤ 128) ∧ l.length ≤ 12 ∧ ∀ x ∈ l, risesB x = true ∧ ∀ y ∈ x, 0 ≤ y ∧ y ≤ n - 1 := by
  unfold cardsB at h
  rw [Bool.and_eq_true, Bool.and_eq_true, decide_eq_true_eq, decide_eq_true_eq] at h
  refine ⟨h.1, by omega, fun x hx => ?_⟩
  have := List.all_eq_true.1 h.2.2 x hx
  unfold cardB at this
  rw [Bool.and_eq_true] at this
  refine ⟨this.2, fun y hy => ?_⟩
  have := List.all_eq_true.1 this.1 y hy
  rw [Bool.and_eq_true, decide_eq_true_eq, decide_eq_true_eq] at this
  exact this

end Go.Proofs.YtpekdmadmggbpaaDoor.Pure
