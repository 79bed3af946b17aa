/- Plain lemmas of several texts in one: Base, Coin0, Coin1, Tab0, Purse0, Change0, Can1. -/
import Derived.Test.YtohghfeomocnlaaWWords
import Derived.Test.YtohghfeomocnlaaWMore
import Derived.Test.YtohghfeomocnlaaCx1
import Derived.Test.YtohghfeomocnlaaCx4
import Derived.Test.YtohghfeomocnlaaCx2
import Derived.Test.YtohghfeomocnlaaCx5
import Derived.Test.YtohghfeomocnlaaCx3
import Derived.Test.YtohghfeomocnlaaCx6
/- Plain lemmas on the laws' own helpers: copying a list, comparing two lists. -/
namespace Go.Proofs.Ytohghfeomocnlaa.Pure
open Go.RowKit Go.Proofs.Ytohghfeomocnlaa.C Go.Proofs.YtohghfeomocnlaaW.PrintWords Go.Proofs.YtohghfeomocnlaaW.PrintLast

theorem Ev.eq {α : Type} {g f : Nat → Option α} {r : α} (h : ∀ k, g (k + 1) = f k) (k : Ev f r) : Ev g r := Ev.step h k
theorem Ev.pure' {α : Type} {g : Nat → Option α} {r : α} (h : ∀ k, g k = some r) : Ev g r := ⟨0, fun k _ => h k⟩
theorem Ev.one {α : Type} {g : Nat → Option α} {r : α} (h : ∀ k, g (k + 1) = some r) : Ev g r := Ev.step (f := fun _ => some r) h (Ev.now r)
theorem Ev.some_bind {α β : Type} {f : Nat → α → Option β} {a : α} {r : β} (h : Ev (fun n => f n a) r) : Ev (fun n => (some a).bind (f n)) r := h
theorem Ev.if_pos' {α : Type} {c : Prop} [Decidable c] {g f : Nat → Option α} {r : α} (hc : c) (h : Ev g r) : Ev (fun n => if c then g n else f n) r := by
  simpa only [if_pos hc] using h
theorem Ev.if_neg' {α : Type} {c : Prop} [Decidable c] {g f : Nat → Option α} {r : α} (hc : ¬ c) (h : Ev f r) : Ev (fun n => if c then g n else f n) r := by
  simpa only [if_neg hc] using h
theorem Ev.const_bind {α β : Type} {g : Option α} {f : Nat → α → Option β} {a : α} {r : β} (h : g = some a) (k : Ev (fun n => f n a) r) : Ev (fun n => g.bind (f n)) r := by
  simpa only [h, Option.bind_some] using k
/-- More rounds may be taken. -/
theorem Ev.le {α : Type} {g f : Nat → Option α} {r : α} (h : Ev g r) (hle : ∀ k, LeO (g k) (f k)) : Ev f r := by
  obtain ⟨K, hK⟩ := h
  exact ⟨K, fun k hk => hle k _ (hK k hk)⟩

theorem w64 {x : Int} (h0 : -9223372036854775808 ≤ x) (h1 : x ≤ 9223372036854775807) : wrap64 x = x := by unfold wrap64; omega
theorem rd_eq (l : List Int) (i : Nat) (h : i < l.length) : rd l (i : Int) = l[i] := by simp [rd, h]
theorem rd_nat (l : List Int) (i : Nat) : rd l (i : Int) = l.getD i 0 := rfl

theorem l1In_eq (a b c : Int) : spec_l1In.f a b c = some (decide (b ≤ a ∧ a ≤ c)) := by
  unfold spec_l1In.f
  by_cases h : a ≥ b <;> simp [h, ge_iff_le] <;> omega
theorem within_eq (a b c : Int) : impl_within.f a b c = some (decide (b ≤ a ∧ a ≤ c)) := by
  unfold impl_within.f
  by_cases h : b ≤ a <;> simp [h]

theorem set_split (l : List Int) (i : Nat) (h : i < l.length) (v : Int) : l.set i v = l.take i ++ v :: l.drop (i + 1) := by
  rw [List.set_eq_take_append_cons_drop, if_pos h]

theorem toIntS_loop (l : List Int) (hl : l.length ≤ 35184372088832) (d : Nat) : ∀ (i : Nat) (acc : List Int), acc.length = l.length → l.length - i = d → i ≤ l.length → acc.take i = l.take i →
    Ev (fun k => laws_toIntS.l0 k l acc (i : Int)) l := by
  induction d with
  | zero =>
    intro i acc ha hd hi he
    have hil : i = l.length := by omega
    refine Ev.one fun k => ?_
    rw [laws_toIntS.l0, if_neg (by omega)]
    have := he; rw [hil] at this
    rw [List.take_length, ← ha, List.take_length] at this
    rw [this]
  | succ d ih =>
    intro i acc ha hd hi he
    refine Ev.step (f := fun k => laws_toIntS.l0 k l (acc.set i l[i]!) ((i + 1 : Nat) : Int)) (fun k => ?_) (ih (i + 1) _ (by simpa using ha) (by omega) (by omega) ?_)
    · rw [laws_toIntS.l0, if_pos (by omega), if_pos (by omega), if_pos (by omega), w64 (by omega) (by omega)]
      have : rd l (i : Int) = l[i]! := by rw [rd_eq l i (by omega), getElem!_pos l i (by omega)]
      rw [this]
      rfl
    · rw [getElem!_pos l i (by omega), List.take_succ_eq_append_getElem (by simp; omega), List.take_succ_eq_append_getElem (l := l) (by omega), List.take_set_of_le (by omega), he]
      simp
theorem toIntS_ev (l : List Int) (hl : l.length ≤ 35184372088832) : Ev (fun k => laws_toIntS.f k l) l := by
  unfold laws_toIntS.f
  refine Ev.if_pos' (by omega) (Ev.if_pos' (by omega) ?_)
  exact toIntS_loop l hl l.length 0 _ (by simp) (by omega) (by omega) (by simp)

theorem eqIntS_loop (a b : List Int) (hab : a.length = b.length) (hl : a.length ≤ 35184372088832) (d : Nat) : ∀ (i : Nat), a.length - i = d → i ≤ a.length →
    Ev (fun k => laws_eqIntS.l0 k a b (i : Int)) (decide (a.drop i = b.drop i)) := by
  induction d with
  | zero =>
    intro i hd hi
    refine Ev.one fun k => ?_
    rw [laws_eqIntS.l0, if_neg (by omega), List.drop_of_length_le (by omega), List.drop_of_length_le (by omega)]
    simp
  | succ d ih =>
    intro i hd hi
    have hi' : i < a.length := by omega
    have h := ih (i + 1) (by omega) (by omega)
    have hib : i < b.length := by omega
    rw [List.drop_eq_getElem_cons hi', List.drop_eq_getElem_cons hib]
    by_cases he : a[i] = b[i]
    · refine Ev.step (f := fun k => laws_eqIntS.l0 k a b ((i + 1 : Nat) : Int)) (fun k => ?_) (by simp only [he, List.cons.injEq, true_and]; exact h)
      rw [laws_eqIntS.l0, if_pos (by omega), if_pos (by omega), if_pos (by omega), if_pos (by rw [rd_eq a i hi', rd_eq b i hib, he]), w64 (by omega) (by omega)]
      rfl
    · refine Ev.one fun k => ?_
      rw [laws_eqIntS.l0, if_pos (by omega), if_pos (by omega), if_pos (by omega), if_neg (by rw [rd_eq a i hi', rd_eq b i hib]; exact he)]
      rw [decide_eq_false (fun e => he (List.cons.inj e).1)]
theorem eqIntS_ev (a b : List Int) (hl : a.length ≤ 35184372088832) : Ev (fun k => laws_eqIntS.f k a b) (decide (a = b)) := by
  unfold laws_eqIntS.f
  by_cases h : a.length = b.length
  · refine Ev.if_pos' (by omega) ?_
    simpa using eqIntS_loop a b h hl a.length 0 (by omega) (by omega)
  · refine Ev.if_neg' (by omega) ?_
    rw [decide_eq_false (fun e => h (by rw [e]))]
    exact Ev.now _
theorem eqIntS_self (a : List Int) (hl : a.length ≤ 35184372088832) : Ev (fun k => laws_eqIntS.f k a a) true := by
  simpa using eqIntS_ev a a hl

end Go.Proofs.Ytohghfeomocnlaa.Pure

/- Plain lemmas: which lists are coins, by the program and by the reference. -/
namespace Go.Proofs.Ytohghfeomocnlaa.Pure
open Go.RowKit Go.Proofs.Ytohghfeomocnlaa.C Go.Proofs.YtohghfeomocnlaaW.PrintWords Go.Proofs.YtohghfeomocnlaaW.PrintLast

def risesB : List Int → Bool
  | a :: b :: t => decide (a < b) && risesB (b :: t)
  | _ => true
def inB (lo hi : Int) (l : List Int) : Bool := l.all fun x => decide (lo ≤ x) && decide (x ≤ hi)

theorem drop_two (l : List Int) (i : Nat) (h1 : 1 ≤ i) (h : i < l.length) : l.drop (i - 1) = l[i - 1] :: l[i] :: l.drop (i + 1) := by
  rw [List.drop_eq_getElem_cons (by omega : i - 1 < l.length), show i - 1 + 1 = i by omega, List.drop_eq_getElem_cons h]
theorem rises_short (l : List Int) (i : Nat) (h : l.length ≤ i) : risesB (l.drop (i - 1)) = true := by
  have hs : (l.drop (i - 1)).length ≤ 1 := by rw [List.length_drop]; omega
  match l.drop (i - 1), hs with
  | [], _ => rfl
  | [a], _ => rfl

theorem inB_cons (lo hi a : Int) (t : List Int) : inB lo hi (a :: t) = (decide (lo ≤ a ∧ a ≤ hi) && inB lo hi t) := by simp [inB]
theorem rises_loop (l : List Int) (hl : l.length ≤ 35184372088832) (d : Nat) : ∀ (i : Nat), 1 ≤ i → l.length - i = d → i ≤ 35184372088833 →
    Ev (fun k => impl_rises.l0 k l (i : Int)) (risesB (l.drop (i - 1))) := by
  induction d with
  | zero =>
    intro i h1 hd hi
    rw [rises_short l i (by omega)]
    exact Ev.one fun k => by rw [impl_rises.l0, if_neg (by omega)]
  | succ d ih =>
    intro i h1 hd hi
    have hil : i < l.length := by omega
    have e1 : wrap64 ((i : Int) - 1) = ((i - 1 : Nat) : Int) := by rw [w64 (by omega) (by omega)]; omega
    rw [drop_two l i h1 hil, risesB]
    by_cases hc : l[i - 1] < l[i]
    · have h := ih (i + 1) (by omega) (by omega) (by omega)
      rw [show i + 1 - 1 = i by omega, List.drop_eq_getElem_cons hil] at h
      rw [decide_eq_true hc, Bool.true_and]
      refine Ev.step (f := fun k => impl_rises.l0 k l ((i + 1 : Nat) : Int)) (fun k => ?_) h
      rw [impl_rises.l0, if_pos (by omega), e1, if_pos (by omega), if_pos (by omega), if_pos (by omega), rd_eq l i hil, rd_eq l (i - 1) (by omega), if_neg (by omega), w64 (by omega) (by omega)]
      rfl
    · rw [decide_eq_false hc, Bool.false_and]
      refine Ev.one fun k => ?_
      rw [impl_rises.l0, if_pos (by omega), e1, if_pos (by omega), if_pos (by omega), if_pos (by omega), rd_eq l i hil, rd_eq l (i - 1) (by omega), if_pos (by omega)]
theorem rises_ev (l : List Int) (hl : l.length ≤ 35184372088832) : Ev (fun k => impl_rises.f k l) (risesB l) := by
  unfold impl_rises.f
  exact rises_loop l hl (l.length - 1) 1 (by omega) rfl (by omega)

theorem l1Rising_loop (l : List Int) (lo hi : Int) (hl : l.length ≤ 35184372088832) (d : Nat) : ∀ (i : Nat), 1 ≤ i → l.length - i = d → i ≤ 35184372088833 →
    Ev (fun k => spec_l1Rising.l0 k l lo hi l (l.length : Int) (i : Int)) (inB lo hi (l.drop i) && risesB (l.drop (i - 1))) := by
  induction d with
  | zero =>
    intro i h1 hd hi
    rw [rises_short l i (by omega), List.drop_of_length_le (by omega)]
    exact Ev.one fun k => by rw [spec_l1Rising.l0, if_neg (by omega)]; rfl
  | succ d ih =>
    intro i h1 hd hi'
    have hil : i < l.length := by omega
    have e1 : wrap64 ((i : Int) - 1) = ((i - 1 : Nat) : Int) := by rw [w64 (by omega) (by omega)]; omega
    rw [drop_two l i h1 hil, risesB, List.drop_eq_getElem_cons hil]
    rw [inB_cons]
    by_cases hb : lo ≤ l[i] ∧ l[i] ≤ hi
    · rw [decide_eq_true hb, Bool.true_and]
      by_cases hc : l[i - 1] < l[i]
      · have h := ih (i + 1) (by omega) (by omega) (by omega)
        rw [show i + 1 - 1 = i by omega, List.drop_eq_getElem_cons hil] at h
        rw [decide_eq_true hc, Bool.true_and]
        refine Ev.step (f := fun k => spec_l1Rising.l0 k l lo hi l (l.length : Int) ((i + 1 : Nat) : Int)) (fun k => ?_) h
        rw [spec_l1Rising.l0, if_pos (by omega), if_pos (by omega), if_pos (by omega), rd_eq l i hil, l1In_eq, decide_eq_true hb, Option.bind_some, if_pos rfl, if_pos (by omega), e1, if_pos (by omega), if_pos (by omega), rd_eq l (i - 1) (by omega), if_neg (by omega), w64 (by omega) (by omega)]
        rfl
      · rw [decide_eq_false hc, Bool.false_and, Bool.and_false]
        refine Ev.one fun k => ?_
        rw [spec_l1Rising.l0, if_pos (by omega), if_pos (by omega), if_pos (by omega), rd_eq l i hil, l1In_eq, decide_eq_true hb, Option.bind_some, if_pos rfl, if_pos (by omega), e1, if_pos (by omega), if_pos (by omega), rd_eq l (i - 1) (by omega), if_pos (by omega)]
    · rw [decide_eq_false hb, Bool.false_and, Bool.false_and]
      refine Ev.one fun k => ?_
      rw [spec_l1Rising.l0, if_pos (by omega), if_pos (by omega), if_pos (by omega), rd_eq l i hil, l1In_eq, decide_eq_false hb, Option.bind_some, if_neg (by simp)]
theorem l1Rising_ev (l : List Int) (lo hi : Int) (hl : l.length ≤ 35184372088832) : Ev (fun k => spec_l1Rising.f k l lo hi) (inB lo hi l && risesB l) := by
  unfold spec_l1Rising.f
  cases l with
  | nil => exact Ev.one fun k => by rw [spec_l1Rising.l0, if_neg (by simp)]; rfl
  | cons a t =>
    have hil : 0 < (a :: t).length := by simp
    have h := l1Rising_loop (a :: t) lo hi hl ((a :: t).length - 1) 1 (by omega) rfl (by omega)
    rw [inB_cons]
    by_cases hb : lo ≤ a ∧ a ≤ hi
    · rw [decide_eq_true hb, Bool.true_and]
      refine Ev.step (f := fun k => spec_l1Rising.l0 k (a :: t) lo hi (a :: t) ((a :: t).length : Int) ((1 : Nat) : Int)) (fun k => ?_) h
      rw [spec_l1Rising.l0, if_pos (by omega), if_pos (by omega), if_pos (by omega), show rd (a :: t) 0 = a from rfl, l1In_eq, decide_eq_true hb, Option.bind_some, if_pos rfl, if_neg (by omega), w64 (by omega) (by omega)]
      rfl
    · rw [decide_eq_false hb, Bool.false_and, Bool.false_and]
      refine Ev.one fun k => ?_
      rw [spec_l1Rising.l0, if_pos (by omega), if_pos (by omega), if_pos (by omega), show rd (a :: t) 0 = a from rfl, l1In_eq, decide_eq_false hb, Option.bind_some, if_neg (by simp)]
theorem areWithin_eq (l : List Int) (lo hi : Int) (hl : l.length ≤ 35184372088832) : impl_areWithin.f l lo hi = some (inB lo hi l) := by
  unfold impl_areWithin.f
  rw [if_pos (by omega)]
  rfl
/-- What coins are. -/
def coinsB (l : List Int) : Bool := decide (1 ≤ (l.length : Int) ∧ (l.length : Int) ≤ 8) && (inB 1 1000 l && risesB l)
theorem cnGood_ev (l : List Int) (hl : l.length ≤ 35184372088832) : Ev (fun k => spec_cnGood.f k l) (coinsB l) := by
  unfold spec_cnGood.f coinsB
  refine Ev.const_bind (l1In_eq _ _ _) ?_
  by_cases h : 1 ≤ (l.length : Int) ∧ (l.length : Int) ≤ 8
  · rw [decide_eq_true h, Bool.true_and]
    exact Ev.if_pos' rfl (Ev.bind (l1Rising_ev l 1 1000 hl) (Ev.now _))
  · rw [decide_eq_false h, Bool.false_and]
    exact Ev.if_neg' (by simp) (Ev.now _)
theorem AreCoins_ev (l : List Int) (hl : l.length ≤ 35184372088832) : Ev (fun k => impl_AreCoins.f k l) (coinsB l) := by
  unfold impl_AreCoins.f coinsB
  refine Ev.const_bind (within_eq _ _ _) ?_
  by_cases h : 1 ≤ (l.length : Int) ∧ (l.length : Int) ≤ 8
  · rw [decide_eq_true h, Bool.true_and]
    refine Ev.if_pos' rfl (Ev.const_bind (areWithin_eq l 1 1000 hl) ?_)
    cases h2 : inB 1 1000 l with
    | true => exact Ev.if_pos' rfl (Ev.bind (rises_ev l hl) (Ev.now _))
    | false => exact Ev.if_neg' (by simp) (Ev.now _)
  · rw [decide_eq_false h, Bool.false_and]
    exact Ev.if_neg' (by simp) (Ev.now _)
theorem coins_len {l : List Int} (h : coinsB l = true) : 1 ≤ l.length ∧ l.length ≤ 8 := by
  simp [coinsB] at h; omega
theorem coins_mem {l : List Int} (h : coinsB l = true) : ∀ x ∈ l, 1 ≤ x ∧ x ≤ 1000 := by
  simp [coinsB, inB] at h; exact h.2.1
end Go.Proofs.Ytohghfeomocnlaa.Pure

/- Plain lemmas: coins and an amount, by the program and by the reference. -/
namespace Go.Proofs.Ytohghfeomocnlaa.Pure
open Go.RowKit Go.Proofs.Ytohghfeomocnlaa.C Go.Proofs.YtohghfeomocnlaaW.PrintWords Go.Proofs.YtohghfeomocnlaaW.PrintLast

theorem cnAsked_ev (l : List Int) (a : Int) (hl : l.length ≤ 35184372088832) : Ev (fun k => spec_cnAsked.f k l a) (coinsB l && decide (0 ≤ a ∧ a ≤ 20000)) := by
  unfold spec_cnAsked.f
  refine Ev.bind (cnGood_ev l hl) ?_
  cases h : coinsB l with
  | true => exact Ev.if_pos' rfl (Ev.const_bind (l1In_eq _ _ _) (Ev.now _))
  | false => exact Ev.if_neg' (by simp) (Ev.now _)
theorem isAmount_ev (l : List Int) (a : Int) (hl : l.length ≤ 35184372088832) : Ev (fun k => impl_isAmount.f k l a) (coinsB l && decide (0 ≤ a ∧ a ≤ 20000)) := by
  unfold impl_isAmount.f
  refine Ev.bind (AreCoins_ev l hl) ?_
  cases h : coinsB l with
  | true => exact Ev.if_pos' rfl (Ev.const_bind (within_eq _ _ _) (Ev.now _))
  | false => exact Ev.if_neg' (by simp) (Ev.now _)
/-- The rest of a law without a slice among its results: the argument is as it was. -/
theorem same_end (l : List Int) (hl : l.length ≤ 35184372088832) : Ev (fun k => (laws_toIntS.f k l).bind fun t => (laws_eqIntS.f k l t).bind fun u => if u = true then some true else some false) true :=
  Ev.bind (toIntS_ev l hl) (Ev.bind (eqIntS_self l hl) (Ev.if_pos' rfl (Ev.now _)))

end Go.Proofs.Ytohghfeomocnlaa.Pure

/- Plain lemmas on tables as lists: reading, writing; a number that is there or not, as the programs write it. -/
namespace Go.Proofs.Ytohghfeomocnlaa.Pure
open Go.RowKit Go.Proofs.Ytohghfeomocnlaa.C Go.Proofs.YtohghfeomocnlaaW.PrintWords Go.Proofs.YtohghfeomocnlaaW.PrintLast

theorem getD_lt {α : Type} (A B : List α) (d : α) (i : Nat) (h : i < A.length) : (A ++ B).getD i d = A.getD i d := by simp [List.getD, List.getElem?_append_left h]
theorem getD_ge {α : Type} (A B : List α) (d : α) (i : Nat) (h : A.length ≤ i) : (A ++ B).getD i d = B.getD (i - A.length) d := by simp [List.getD, List.getElem?_append_right h]
theorem getD_out {α : Type} (A : List α) (d : α) (i : Nat) (h : A.length ≤ i) : A.getD i d = d := by simp [List.getD, List.getElem?_eq_none h]
theorem mn_lt {a b : Int} (h : b < a) : mn a b = b := if_pos h
theorem mn_ge {a b : Int} (h : a ≤ b) : mn a b = a := if_neg (by omega)
/-- How the reference writes it; how the program writes it in a table up to m. -/
def encS : Option Nat → Int
  | none => -1
  | some n => n
def encP (m : Nat) : Option Nat → Int
  | none => m + 1
  | some n => n
theorem rd_app_lt (A B : List Int) (i : Nat) (h : i < A.length) : rd (A ++ B) (i : Int) = A.getD i 0 := by
  rw [rd_nat, getD_lt _ _ _ _ h]
theorem rd_app_at (A : List Int) (x : Int) (B : List Int) : rd (A ++ x :: B) (A.length : Int) = x := by
  rw [rd_nat, getD_ge _ _ _ _ (by omega)]; simp
theorem set_at (A : List Int) (x y : Int) (B : List Int) : (A ++ x :: B).set A.length y = A ++ y :: B := by
  simp
theorem getD_map {α : Type} (f : α → Int) (A : List α) (d : α) (i : Nat) (h : i < A.length) : (A.map f).getD i 0 = f (A.getD i d) := by
  simp [List.getD, h]


end Go.Proofs.Ytohghfeomocnlaa.Pure

/- Plain lemmas: change by a purse; the kinds may be taken in any order. -/
namespace Go.Proofs.Ytohghfeomocnlaa.Pure
open Go.RowKit Go.Proofs.Ytohghfeomocnlaa.C Go.Proofs.YtohghfeomocnlaaW.PrintWords Go.Proofs.YtohghfeomocnlaaW.PrintLast

/-- The least number of coins c, of p at most, that leave an amount with S. -/
def lst (c : Nat) (S : Nat → Bool) : Nat → Nat → Option Nat
  | 0, a => if S a = true then some 0 else none
  | p + 1, a => if S a = true then some 0 else if c ≤ a then (lst c S p (a - c)).map (· + 1) else none
theorem lst_le (c : Nat) (S : Nat → Bool) (p : Nat) : ∀ a n, lst c S p a = some n → n ≤ p := by
  induction p with
  | zero => intro a n h; unfold lst at h; split at h <;> cases h; omega
  | succ p ih =>
    intro a n h
    unfold lst at h
    split at h
    · cases h; omega
    · split at h
      · cases hl : lst c S p (a - c) with
        | none => rw [hl] at h; cases h
        | some m => rw [hl] at h; have := ih _ _ hl; simp only [Option.map_some, Option.some.injEq] at h; omega
      · cases h
theorem lst_zero (c : Nat) (S : Nat → Bool) (p a : Nat) (h : S a = true) : lst c S p a = some 0 := by
  cases p <;> simp [lst, h]
theorem lst_low (c : Nat) (S : Nat → Bool) (p : Nat) : ∀ a, lst c S p a = match lst c S (p + 1) a with
    | some n => if n ≤ p then some n else none
    | none => none := by
  induction p with
  | zero =>
    intro a
    rw [lst, lst]
    by_cases h : S a = true
    · simp [h]
    · rw [if_neg h, if_neg h]
      by_cases hc : c ≤ a
      · rw [if_pos hc]
        cases lst c S 0 (a - c) <;> simp
      · rw [if_neg hc]
  | succ p ih =>
    intro a
    rw [lst]
    conv => rhs; rw [lst]
    by_cases h : S a = true
    · simp [h]
    · rw [if_neg h, if_neg h]
      by_cases hc : c ≤ a
      · rw [if_pos hc, if_pos hc, ih (a - c)]
        cases lst c S (p + 1) (a - c) with
        | none => rfl
        | some n =>
          by_cases hn : n ≤ p
          · simp [hn]
          · simp [hn]
      · rw [if_neg hc, if_neg hc]
/-- As the tables hold it: by the number for the amount without one coin. -/
theorem lst_step (c : Nat) (S : Nat → Bool) (p a : Nat) (h : S a = false) : lst c S p a = if c ≤ a then (match lst c S p (a - c) with
    | some n => if n < p then some (n + 1) else none
    | none => none) else none := by
  cases p with
  | zero =>
    simp only [lst, h]
    by_cases hc : c ≤ a
    · rw [if_pos hc]
      cases S (a - c) <;> simp
    · rw [if_neg hc]; simp
  | succ p =>
    conv => lhs; rw [lst]
    rw [h, if_neg (by simp)]
    by_cases hc : c ≤ a
    · rw [if_pos hc, if_pos hc, lst_low c S p (a - c)]
      cases lst c S (p + 1) (a - c) with
      | none => rfl
      | some n =>
        by_cases hn : n ≤ p
        · simp [hn]; omega
        · simp [hn]; omega
    · rw [if_neg hc, if_neg hc]
theorem lst_iff (c : Nat) (S : Nat → Bool) (p : Nat) : ∀ a, (lst c S p a).isSome = true ↔ ∃ n, n ≤ p ∧ n * c ≤ a ∧ S (a - n * c) = true := by
  induction p with
  | zero =>
    intro a
    rw [lst]
    by_cases h : S a = true
    · rw [if_pos h]; exact ⟨fun _ => ⟨0, by omega, by omega, by simpa using h⟩, fun _ => rfl⟩
    · rw [if_neg h]
      refine ⟨fun h => (by cases h), fun ⟨n, h1, h2, h3⟩ => ?_⟩
      have : n = 0 := by omega
      subst this
      exact absurd (by simpa using h3) h
  | succ p ih =>
    intro a
    rw [lst]
    by_cases h : S a = true
    · rw [if_pos h]; exact ⟨fun _ => ⟨0, by omega, by omega, by simpa using h⟩, fun _ => rfl⟩
    · rw [if_neg h]
      by_cases hc : c ≤ a
      · rw [if_pos hc, Option.isSome_map, ih]
        constructor
        · intro ⟨n, h1, h2, h3⟩
          exact ⟨n + 1, by omega, by rw [Nat.add_mul]; omega, by rw [Nat.add_mul, Nat.one_mul, show a - (n * c + c) = a - c - n * c by omega]; exact h3⟩
        · intro ⟨n, h1, h2, h3⟩
          cases n with
          | zero => exact absurd (by simpa using h3) h
          | succ n =>
            rw [Nat.add_mul, Nat.one_mul] at h2 h3
            exact ⟨n, by omega, by omega, by rw [show a - c - n * c = a - (n * c + c) by omega]; exact h3⟩
      · rw [if_neg hc]
        refine ⟨fun h => (by cases h), fun ⟨n, h1, h2, h3⟩ => ?_⟩
        cases n with
        | zero => exact absurd (by simpa using h3) h
        | succ n => rw [Nat.add_mul] at h2; omega
/-- The least n is the first that the amounts tell. -/
theorem lst_first (c : Nat) (S : Nat → Bool) (p : Nat) : ∀ a n, lst c S p a = some n → n * c ≤ a ∧ S (a - n * c) = true ∧ ∀ j, j < n → S (a - j * c) = false := by
  induction p with
  | zero =>
    intro a n h
    rw [lst] at h
    by_cases hs : S a = true
    · rw [if_pos hs] at h; cases h; exact ⟨by omega, by simpa using hs, fun j hj => by omega⟩
    · rw [if_neg hs] at h; cases h
  | succ p ih =>
    intro a n h
    rw [lst] at h
    by_cases hs : S a = true
    · rw [if_pos hs] at h; cases h; exact ⟨by omega, by simpa using hs, fun j hj => by omega⟩
    · rw [if_neg hs] at h
      by_cases hc : c ≤ a
      · rw [if_pos hc] at h
        cases hl : lst c S p (a - c) with
        | none => rw [hl] at h; cases h
        | some m =>
          rw [hl] at h; simp only [Option.map_some, Option.some.injEq] at h; subst h
          obtain ⟨h1, h2, h3⟩ := ih _ _ hl
          refine ⟨by rw [Nat.add_mul]; omega, by rw [Nat.add_mul, Nat.one_mul, show a - (m * c + c) = a - c - m * c by omega]; exact h2, fun j hj => ?_⟩
          cases j with
          | zero => simpa using hs
          | succ j =>
            rw [Nat.add_mul, Nat.one_mul, show a - (j * c + c) = a - c - j * c by omega]
            exact h3 j (by omega)
      · rw [if_neg hc] at h; cases h
def stepB (c p : Nat) (S : Nat → Bool) (a : Nat) : Bool := (lst c S p a).isSome
theorem step_comm1 (c p d q : Nat) (S : Nat → Bool) (a : Nat) (h : stepB c p (stepB d q S) a = true) : stepB d q (stepB c p S) a = true := by
  obtain ⟨n, h1, h2, h3⟩ := (lst_iff _ _ _ _).1 h
  obtain ⟨m, h4, h5, h6⟩ := (lst_iff _ _ _ _).1 h3
  refine (lst_iff _ _ _ _).2 ⟨m, h4, by omega, (lst_iff _ _ _ _).2 ⟨n, h1, by omega, ?_⟩⟩
  rw [show a - m * d - n * c = a - n * c - m * d by omega]
  exact h6
theorem step_comm (c p d q : Nat) (S : Nat → Bool) : stepB c p (stepB d q S) = stepB d q (stepB c p S) := by
  funext a
  exact Bool.eq_iff_iff.2 ⟨step_comm1 _ _ _ _ _ _, step_comm1 _ _ _ _ _ _⟩
/-- The amounts that coins and a purse pay, on top of those with S. -/
def pays (S : Nat → Bool) : List Int → List Int → Nat → Bool
  | c :: cs, p :: ps => stepB c.toNat p.toNat (pays S cs ps)
  | _, _ => S
def isZero (a : Nat) : Bool := decide (a = 0)
theorem pays_step (c p : Nat) (cs : List Int) : ∀ (S : Nat → Bool) (ps : List Int), pays (stepB c p S) cs ps = stepB c p (pays S cs ps) := by
  induction cs with
  | nil => intro S ps; cases ps <;> rfl
  | cons d cs ih =>
    intro S ps
    cases ps with
    | nil => rfl
    | cons q ps => rw [pays, pays, ih, step_comm]
/-- The table of a function up to m. -/
def tabF {α : Type} (f : Nat → α) (m : Nat) : List α := (List.range (m + 1)).map f
theorem tabF_length {α : Type} (f : Nat → α) (m : Nat) : (tabF f m).length = m + 1 := by simp [tabF]
theorem tabF_get {α : Type} (f : Nat → α) (m i : Nat) (d : α) (h : i ≤ m) : (tabF f m).getD i d = f i := by
  simp [tabF, List.getD, List.getElem?_range (show i < m + 1 by omega)]
theorem rangeMap_succ {α : Type} (f : Nat → α) (n : Nat) : (List.range (n + 1)).map f = (List.range n).map f ++ [f n] := by
  rw [List.range_succ, List.map_append]; rfl

end Go.Proofs.Ytohghfeomocnlaa.Pure

/- Plain lemmas: change by a purse, by the reference's table and by the program's tables. -/
namespace Go.Proofs.Ytohghfeomocnlaa.Pure
open Go.RowKit Go.Proofs.Ytohghfeomocnlaa.C Go.Proofs.YtohghfeomocnlaaW.PrintWords Go.Proofs.YtohghfeomocnlaaW.PrintLast

theorem l1All_loop (l : List Int) (lo hi : Int) (hl : l.length ≤ 35184372088832) (d : Nat) : ∀ i : Nat, l.length - i = d → i ≤ l.length →
    Ev (fun k => spec_l1All.l0 k lo hi l (l.length : Int) (i : Int)) (inB lo hi (l.drop i)) := by
  induction d with
  | zero =>
    intro i hd hi'
    refine Ev.one fun k => ?_
    rw [spec_l1All.l0, if_neg (by omega), List.drop_of_length_le (by omega)]
    rfl
  | succ d ih =>
    intro i hd hi'
    have hil : i < l.length := by omega
    rw [List.drop_eq_getElem_cons hil, inB_cons]
    by_cases hb : lo ≤ l[i] ∧ l[i] ≤ hi
    · rw [decide_eq_true hb, Bool.true_and]
      refine Ev.step (fun k => ?_) (ih (i + 1) (by omega) (by omega))
      rw [spec_l1All.l0, if_pos (by omega), if_pos (by omega), if_pos (by omega), rd_eq l i hil, l1In_eq, decide_eq_true hb, Option.bind_some, if_pos rfl, w64 (by omega) (by omega)]
      rfl
    · rw [decide_eq_false hb, Bool.false_and]
      refine Ev.one fun k => ?_
      rw [spec_l1All.l0, if_pos (by omega), if_pos (by omega), if_pos (by omega), rd_eq l i hil, l1In_eq, decide_eq_false hb, Option.bind_some, if_neg (by simp)]
/-- What a purse for coins and an amount are. -/
def purseB (l p : List Int) (a : Int) : Bool := (coinsB l && decide (0 ≤ a ∧ a ≤ 20000)) && (decide ((p.length : Int) = (l.length : Int)) && inB 0 1000 p)
theorem cnPurse_ev (l p : List Int) (a : Int) (hl : l.length ≤ 35184372088832) (hp : p.length ≤ 35184372088832) : Ev (fun k => spec_cnPurse.f k l p a) (purseB l p a) := by
  unfold spec_cnPurse.f purseB
  refine Ev.bind (cnAsked_ev l a hl) ?_
  cases h : (coinsB l && decide (0 ≤ a ∧ a ≤ 20000)) with
  | false => exact Ev.if_neg' (by simp) (Ev.now _)
  | true =>
    refine Ev.if_pos' rfl ?_
    by_cases he : (p.length : Int) = (l.length : Int)
    · rw [decide_eq_true he]
      refine Ev.if_pos' he (Ev.bind (a := inB 0 1000 p) ?_ (Ev.now _))
      unfold spec_l1All.f
      exact l1All_loop p 0 1000 hp p.length 0 (by omega) (by omega)
    · rw [decide_eq_false he]
      exact Ev.if_neg' he (Ev.now _)
theorem isPurse_ev (l p : List Int) (a : Int) (hl : l.length ≤ 35184372088832) (hp : p.length ≤ 35184372088832) : Ev (fun k => impl_isPurse.f k l p a) (purseB l p a) := by
  unfold impl_isPurse.f purseB
  refine Ev.bind (isAmount_ev l a hl) ?_
  cases h : (coinsB l && decide (0 ≤ a ∧ a ≤ 20000)) with
  | false => exact Ev.if_neg' (by simp) (Ev.now _)
  | true =>
    refine Ev.if_pos' rfl ?_
    by_cases he : (p.length : Int) = (l.length : Int)
    · rw [decide_eq_true he]
      exact Ev.if_pos' he (Ev.const_bind (areWithin_eq p 0 1000 hp) (Ev.now _))
    · rw [decide_eq_false he]
      exact Ev.if_neg' he (Ev.now _)

/-- The table up to m whose first a places are those of one function, the others those of another one. -/
def part {α : Type} (f g : Nat → α) (m a : Nat) : List α := (List.range (m + 1)).map fun j => if j < a then f j else g j
theorem part_length {α : Type} (f g : Nat → α) (m a : Nat) : (part f g m a).length = m + 1 := by simp [part]
theorem part_get {α : Type} (f g : Nat → α) (m a i : Nat) (d : α) (h : i ≤ m) : (part f g m a).getD i d = if i < a then f i else g i := by
  simp [part, List.getD, List.getElem?_range (show i < m + 1 by omega)]
theorem part_set {α : Type} (f g : Nat → α) (m a : Nat) : (part f g m a).set a (f a) = part f g m (a + 1) := by
  refine List.ext_getElem (by simp [part]) fun i h1 h2 => ?_
  rw [List.getElem_set]
  simp only [part, List.getElem_map, List.getElem_range]
  by_cases e : a = i
  · subst e; rw [if_pos rfl, if_pos (by omega)]
  · rw [if_neg e]
    by_cases hi : i < a
    · rw [if_pos hi, if_pos (by omega)]
    · rw [if_neg hi, if_neg (by omega)]
theorem part_none {α : Type} (f g : Nat → α) (m : Nat) : part f g m 0 = tabF g m := by simp [part, tabF]
theorem part_all {α : Type} (f g : Nat → α) (m : Nat) : part f g m (m + 1) = tabF f m := by
  unfold part tabF
  refine List.map_congr_left fun x hx => ?_
  rw [if_pos (List.mem_range.1 hx)]
theorem tab_const {α : Type} (x : α) (m : Nat) : List.replicate (m + 1) x = tabF (fun _ => x) m := by
  simp [tabF, List.map_const']
theorem rd_tab (f : Nat → Int) (m i : Nat) (h : i ≤ m) : rd (tabF f m) (i : Int) = f i := by rw [rd_nat, tabF_get f m i 0 h]
theorem rdOf_tab (f : Nat → Bool) (m i : Nat) (h : i ≤ m) : rdOf false (tabF f m) (i : Int) = f i := by
  unfold rdOf
  rw [Int.toNat_natCast, tabF_get f m i false h]
theorem rd_part (f g : Nat → Int) (m a i : Nat) (h : i ≤ m) : rd (part f g m a) (i : Int) = if i < a then f i else g i := by rw [rd_nat, part_get f g m a i 0 h]

theorem rd_part_lt (f g : Nat → Int) (m a i : Nat) (h : i ≤ m) (ha : i < a) : rd (part f g m a) (i : Int) = f i := by rw [rd_part f g m a i h, if_pos ha]

section
variable (cs ps : List Int) (m : Nat) (hm : m ≤ 20000)
include hm
theorem from_can (S : Nat → Bool) (c p : Nat) (x18 : List Int) (x19 x20 : Int) (hx : 0 ≤ x20 ∧ x20 ≤ 100) (r : List Bool) (h : Ev (fun k => spec_cnFrom.l0 k ps (m : Int) (tabF (stepB c p S) m) x18 x19 (x20 + 1)) r) (d : Nat) : ∀ a : Nat, m + 1 - a = d → a ≤ m + 1 →
    Ev (fun k => spec_cnFrom.l2 k ps (m : Int) (part (stepB c p S) S m a) (tabF (fun a => encS (lst c S p a)) m) x18 x19 x20 ((m + 1 : Nat) : Int) (a : Int)) r := by
  induction d with
  | zero =>
    intro a hd ha
    obtain rfl : a = m + 1 := by omega
    refine Ev.step (fun k => ?_) h
    rw [spec_cnFrom.l2, if_neg (by omega), part_all, w64 (by omega) (by omega)]
  | succ d ih =>
    intro a hd ha
    refine Ev.step (fun k => ?_) (ih (a + 1) (by omega) (by omega))
    rw [spec_cnFrom.l2, if_pos (by omega), if_pos (by omega), if_pos (by rw [tabF_length]; omega), if_pos (by rw [part_length]; omega), rd_tab _ _ _ (by omega), Int.toNat_natCast, w64 (by omega) (by omega)]
    have e : decide (encS (lst c S p a) ≥ 0) = stepB c p S a := by
      unfold stepB
      cases lst c S p a <;> simp [encS]
    rw [e, part_set]
    rfl
theorem from_used (S : Nat → Bool) (c p : Nat) (hc : 1 ≤ c ∧ c ≤ 1000) (hp : p ≤ 1000) (i : Nat) (hi : i < ps.length) (hi8 : i ≤ 100) (hpi : ps[i] = (p : Int)) (x18 : List Int) (x19 : Int) (r : List Bool) (h : Ev (fun k => spec_cnFrom.l0 k ps (m : Int) (tabF (stepB c p S) m) x18 x19 ((i : Int) + 1)) r) (d : Nat) : ∀ a : Nat, m + 1 - a = d → a ≤ m + 1 →
    Ev (fun k => spec_cnFrom.l1 k ps (m : Int) (tabF S m) (i : Int) (c : Int) (part (fun a => encS (lst c S p a)) (fun _ => 0) m a) x18 x19 (i : Int) ((m + 1 : Nat) : Int) (a : Int)) r := by
  induction d with
  | zero =>
    intro a hd ha
    obtain rfl : a = m + 1 := by omega
    refine Ev.step (fun k => ?_) (from_can ps m hm S c p x18 x19 i (by omega) r h (m + 1) 0 (by omega) (by omega))
    rw [spec_cnFrom.l1, if_neg (by omega), part_all, part_none, tabF_length]
    rfl
  | succ d ih =>
    intro a hd ha
    have h1 := ih (a + 1) (by omega) (by omega)
    have hps := part_set (fun a => encS (lst c S p a)) (fun _ => 0) m a
    have w1 : wrap64 ((a : Int) + 1) = ((a + 1 : Nat) : Int) := by rw [w64 (by omega) (by omega)]; rfl
    rw [← hps] at h1
    refine Ev.step (fun k => ?_) h1
    rw [spec_cnFrom.l1, if_pos (by omega), if_pos (by omega), if_pos (by rw [tabF_length]; omega), rdOf_tab _ _ _ (by omega), Int.toNat_natCast, w1]
    by_cases hs : S a = true
    · rw [if_pos hs, if_pos (by rw [part_length]; omega), lst_zero c S p a hs]
      rfl
    · have hs' : S a = false := by simpa using hs
      have hst := lst_step c S p a hs'
      rw [if_neg hs]
      by_cases hca : c ≤ a
      · rw [if_pos hca] at hst
        have e : wrap64 ((a : Int) - (c : Int)) = ((a - c : Nat) : Int) := by rw [w64 (by omega) (by omega)]; omega
        rw [if_pos (by omega), e, if_pos (by omega), if_pos (by rw [part_length]; omega), rd_part_lt _ _ _ _ _ (by omega) (by omega), rd_eq ps i hi, hpi]
        cases hl : lst c S p (a - c) with
        | none =>
          rw [hl] at hst
          rw [if_neg (by simp [encS]), if_pos (by rw [part_length]; omega), hst]
          rfl
        | some n =>
          have hn := lst_le c S p _ _ hl
          rw [hl] at hst
          rw [if_pos (by simp [encS]), if_pos (by omega), if_pos (by omega)]
          by_cases hnp : n < p
          · simp only [hnp, if_true] at hst
            rw [if_pos (by simp only [encS]; omega), if_pos (by rw [part_length]; omega), hst]
            simp only [encS]
            rw [w64 (by omega) (by omega)]
            rfl
          · simp only [hnp, if_false] at hst
            rw [if_neg (by simp only [encS]; omega), if_pos (by rw [part_length]; omega), hst]
            rfl
      · rw [if_neg hca] at hst
        rw [if_neg (by omega), if_pos (by rw [part_length]; omega), hst]
        rfl
theorem from_loop (hl : cs.length = ps.length) (h8 : cs.length ≤ 100) (hc : ∀ x ∈ cs, 1 ≤ x ∧ x ≤ 1000) (hp : ∀ x ∈ ps, 0 ≤ x ∧ x ≤ 1000) (d : Nat) : ∀ (i : Nat) (S : Nat → Bool), cs.length - i = d → i ≤ cs.length →
    Ev (fun k => spec_cnFrom.l0 k ps (m : Int) (tabF S m) cs (cs.length : Int) (i : Int)) (tabF (pays S (cs.drop i) (ps.drop i)) m) := by
  induction d with
  | zero =>
    intro i S hd hi
    refine Ev.one fun k => ?_
    rw [spec_cnFrom.l0, if_neg (by omega), List.drop_of_length_le (by omega)]
    rfl
  | succ d ih =>
    intro i S hd hi
    have hil : i < cs.length := by omega
    have hip : i < ps.length := by omega
    have hci := hc cs[i] (List.getElem_mem hil)
    have hpi := hp ps[i] (List.getElem_mem hip)
    have h1 := ih (i + 1) (stepB cs[i].toNat ps[i].toNat S) (by omega) (by omega)
    rw [List.drop_eq_getElem_cons hil, List.drop_eq_getElem_cons hip, pays, ← pays_step]
    have h2 := from_used ps m hm S cs[i].toNat ps[i].toNat (by omega) (by omega) i hip (by omega) (by omega) cs (cs.length : Int) _ h1 (m + 1) 0 (by omega) (by omega)
    have w1 : wrap64 ((m : Int) + 1) = ((m + 1 : Nat) : Int) := by rw [w64 (by omega) (by omega)]; rfl
    refine Ev.step (fun k => ?_) h2
    rw [spec_cnFrom.l0, if_pos (by omega), if_pos (by omega), if_pos (by omega), w1, if_pos (by omega), if_pos (by omega), Option.bind_some, rd_eq cs i hil, Int.toNat_natCast, List.length_replicate, tab_const, part_none, show ((cs[i].toNat : Nat) : Int) = cs[i] by omega]
    rfl
theorem cnFrom_ev (hl : cs.length = ps.length) (h8 : cs.length ≤ 100) (hc : ∀ x ∈ cs, 1 ≤ x ∧ x ≤ 1000) (hp : ∀ x ∈ ps, 0 ≤ x ∧ x ≤ 1000) : Ev (fun k => spec_cnFrom.f k cs ps (m : Int)) (tabF (pays isZero cs ps) m) := by
  unfold spec_cnFrom.f
  have w1 : wrap64 ((m : Int) + 1) = ((m + 1 : Nat) : Int) := by rw [w64 (by omega) (by omega)]; rfl
  rw [w1]
  refine Ev.if_pos' (by omega) (Ev.if_pos' (by omega) (Ev.some_bind (Ev.if_pos' (by simp) ?_)))
  have e : (List.replicate ((m + 1 : Nat) : Int).toNat false).set (0 : Int).toNat true = tabF isZero m := by
    rw [Int.toNat_natCast, tab_const]
    have h0 := part_set isZero (fun _ => false) m 0
    rw [part_none] at h0
    rw [show (0 : Int).toNat = 0 by rfl, show (true : Bool) = isZero 0 by rfl, h0]
    unfold part tabF
    refine List.map_congr_left fun x _ => ?_
    by_cases hx : x = 0
    · subst hx; rfl
    · rw [if_neg (by omega)]; simp [isZero, hx]
  rw [e]
  exact from_loop cs ps m hm hl h8 hc hp cs.length 0 isZero (by omega) (by omega)
end

/-- The least number of the first kind, if the first kind and the later ones pay. -/
def needO : List Int → List Int → Nat → Option Nat
  | c :: cs, p :: ps => lst c.toNat (pays isZero cs ps) p.toNat
  | _, _ => fun a => if isZero a = true then some 0 else none
theorem needO_some (cs ps : List Int) (a : Nat) : (needO cs ps a).isSome = pays isZero cs ps a := by
  cases cs with
  | nil => simp only [needO, pays]; cases isZero a <;> rfl
  | cons c cs =>
    cases ps with
    | nil => simp only [needO, pays]; cases isZero a <;> rfl
    | cons p ps => rfl
def encN : Option Nat → Int
  | none => 1001
  | some n => n
/-- The program's table of the kinds from j on. -/
def ntab (cs ps : List Int) (m j : Nat) : List Int := tabF (fun a => encN (needO (cs.drop j) (ps.drop j) a)) m
/-- The tables from k on are there. -/
def Has (cs ps : List Int) (m : Nat) (y : List (List Int)) (k : Nat) : Prop := y.length = cs.length + 1 ∧ ∀ j, k ≤ j → j ≤ cs.length → y.getD j [] = ntab cs ps m j
theorem getD_set {α : Type} (y : List α) (k j : Nat) (x d : α) (h : k < y.length) : (y.set k x).getD j d = if k = j then x else y.getD j d := by
  simp only [List.getD]
  by_cases e : k = j
  · subst e; rw [if_pos rfl, List.getElem?_set_self h]; rfl
  · rw [if_neg e, List.getElem?_set_ne e]
theorem rd_L2_nat (y : List (List Int)) (j : Nat) : rd_L2 y (j : Int) = y.getD j [] := rfl
section
variable (cs ps : List Int) (m : Nat) (hm : m ≤ 20000) (hl : cs.length = ps.length) (h8 : cs.length ≤ 100) (hc : ∀ x ∈ cs, 1 ≤ x ∧ x ≤ 1000) (hp : ∀ x ∈ ps, 0 ≤ x ∧ x ≤ 1000)
include hm hl h8 hc hp
theorem need_row (i : Nat) (hi : i < cs.length) (r : List Int × Bool) (h : ∀ y, Has cs ps m y i → Ev (fun k => impl_ChangeFrom.l1 k cs ps (m : Int) y ((i : Int) - 1)) r) (d : Nat) : ∀ (a : Nat) (y : List (List Int)), m + 1 - a = d → a ≤ m + 1 → Has cs ps m y (i + 1) → y.getD i [] = part (fun a => encN (needO (cs.drop i) (ps.drop i) a)) (fun _ => 0) m a →
    Ev (fun k => impl_ChangeFrom.l2 k cs ps (m : Int) y (i : Int) ((m + 1 : Nat) : Int) (a : Int)) r := by
  have hip : i < ps.length := by omega
  have hci := hc cs[i] (List.getElem_mem hi)
  have hpi := hp ps[i] (List.getElem_mem hip)
  obtain ⟨c, hcn⟩ : ∃ c : Nat, cs[i] = c := ⟨cs[i].toNat, by omega⟩
  obtain ⟨p, hpn⟩ : ∃ p : Nat, ps[i] = p := ⟨ps[i].toNat, by omega⟩
  have hnd : ∀ a, needO (cs.drop i) (ps.drop i) a = lst c (pays isZero (cs.drop (i + 1)) (ps.drop (i + 1))) p a := fun a => by
    rw [List.drop_eq_getElem_cons hi, List.drop_eq_getElem_cons hip, needO, hcn, hpn, Int.toNat_natCast, Int.toNat_natCast]
  induction d with
  | zero =>
    intro a y hd ha hy hya
    obtain rfl : a = m + 1 := by omega
    have hh : Has cs ps m y i := by
      refine ⟨hy.1, fun j h1 h2 => ?_⟩
      by_cases e : j = i
      · subst e; rw [hya, part_all]; rfl
      · exact hy.2 j (by omega) h2
    refine Ev.step (fun k => ?_) (h y hh)
    rw [impl_ChangeFrom.l2, if_neg (by omega), w64 (by omega) (by omega)]
  | succ d ih =>
    intro a y hd ha hy hya
    have hyl := hy.1
    have w1 := Aside0.mk (show wrap64 ((a : Int) + 1) = ((a + 1 : Nat) : Int) by rw [w64 (by omega) (by omega)]; rfl)
    have w2 := Aside0.mk (show wrap64 ((i : Int) + 1) = ((i + 1 : Nat) : Int) by rw [w64 (by omega) (by omega)]; rfl)
    have hnext : rd_L2 y ((i + 1 : Nat) : Int) = ntab cs ps m (i + 1) := by rw [rd_L2_nat]; exact hy.2 (i + 1) (by omega) (by omega)
    have hrow : rd_L2 y (i : Int) = part (fun a => encN (needO (cs.drop i) (ps.drop i) a)) (fun _ => 0) m a := by rw [rd_L2_nat]; exact hya
    have hy' : ∀ v, v = encN (needO (cs.drop i) (ps.drop i) a) → Ev (fun k => impl_ChangeFrom.l2 k cs ps (m : Int) (y.set i ((part (fun a => encN (needO (cs.drop i) (ps.drop i) a)) (fun _ => 0) m a).set a v)) (i : Int) ((m + 1 : Nat) : Int) ((a + 1 : Nat) : Int)) r := fun v hv => by
      subst hv
      rw [part_set (fun a => encN (needO (cs.drop i) (ps.drop i) a)) (fun _ => 0) m a]
      refine ih (a + 1) _ (by omega) (by omega) ⟨by simpa using hyl, fun j h1 h2 => ?_⟩ ?_
      · rw [getD_set _ _ _ _ _ (by omega), if_neg (by omega)]; exact hy.2 j h1 h2
      · rw [getD_set _ _ _ _ _ (by omega), if_pos rfl]
    have hval := Aside0.mk (show rd (ntab cs ps m (i + 1)) (a : Int) = encN (needO (cs.drop (i + 1)) (ps.drop (i + 1)) a) from rd_tab _ _ _ (by omega))
    have hS := needO_some (cs.drop (i + 1)) (ps.drop (i + 1)) a
    have hnl : ∀ n, needO (cs.drop (i + 1)) (ps.drop (i + 1)) a = some n → n ≤ 1000 := fun n hn => by
      by_cases hi1 : i + 1 < cs.length
      · rw [List.drop_eq_getElem_cons hi1, List.drop_eq_getElem_cons (by omega : i + 1 < ps.length), needO] at hn
        have := lst_le _ _ _ _ _ hn
        have := hp ps[i + 1] (List.getElem_mem (by omega))
        omega
      · rw [List.drop_of_length_le (by omega)] at hn
        unfold needO at hn
        simp only at hn
        split at hn
        · cases hn; omega
        · cases hn
    have goal : ∀ v, v = encN (needO (cs.drop i) (ps.drop i) a) → (∀ k, impl_ChangeFrom.l2 (k + 1) cs ps (m : Int) y (i : Int) ((m + 1 : Nat) : Int) (a : Int) = impl_ChangeFrom.l2 k cs ps (m : Int) (y.set i ((part (fun a => encN (needO (cs.drop i) (ps.drop i) a)) (fun _ => 0) m a).set a v)) (i : Int) ((m + 1 : Nat) : Int) ((a + 1 : Nat) : Int)) → Ev (fun k => impl_ChangeFrom.l2 k cs ps (m : Int) y (i : Int) ((m + 1 : Nat) : Int) (a : Int)) r := fun v hv hk => Ev.step hk (hy' v hv)
    have hl1 : (ntab cs ps m (i + 1)).length = m + 1 := by unfold ntab; rw [tabF_length]
    have hl2 : (part (fun a => encN (needO (cs.drop i) (ps.drop i) a)) (fun _ => 0) m a).length = m + 1 := part_length _ _ _ _
    by_cases hs : pays isZero (cs.drop (i + 1)) (ps.drop (i + 1)) a = true
    · have hsome : ∃ n, needO (cs.drop (i + 1)) (ps.drop (i + 1)) a = some n := Option.isSome_iff_exists.1 (by rw [hS]; exact hs)
      obtain ⟨n, hn⟩ := hsome
      have := hnl n hn
      refine goal 0 (by rw [hnd, lst_zero _ _ _ _ hs]; rfl) fun k => ?_
      rw [impl_ChangeFrom.l2, w2.out, hnext, hval.out, hn, hrow, hl1, hl2, w1.out, Int.toNat_natCast, Int.toNat_natCast]
      clear goal hy' ih w1 w2 hval hnl hS
      rw [if_pos (by omega), if_pos (by omega), if_pos (by omega), if_pos (by omega), if_pos (by omega), if_pos (by simp only [encN]; omega), if_pos (by omega), if_pos (by omega), if_pos (by omega)]
    · have hs' : pays isZero (cs.drop (i + 1)) (ps.drop (i + 1)) a = false := by simpa using hs
      have hnone : needO (cs.drop (i + 1)) (ps.drop (i + 1)) a = none := by
        rw [hs'] at hS
        exact Option.isNone_iff_eq_none.1 (by simpa using hS)
      have hst := lst_step c (pays isZero (cs.drop (i + 1)) (ps.drop (i + 1))) p a hs'
      rw [← hnd a] at hst
      by_cases hca : c ≤ a
      · rw [if_pos hca] at hst
        have e := Aside0.mk (show wrap64 ((a : Int) - (c : Int)) = ((a - c : Nat) : Int) by rw [w64 (by omega) (by omega)]; omega)
        have hback := Aside0.mk (show rd (part (fun a => encN (needO (cs.drop i) (ps.drop i) a)) (fun _ => 0) m a) ((a - c : Nat) : Int) = encN (lst c (pays isZero (cs.drop (i + 1)) (ps.drop (i + 1))) p (a - c)) by
          rw [rd_part_lt _ _ _ _ _ (by omega) (by omega), hnd])
        have pre : ∀ k, impl_ChangeFrom.l2 (k + 1) cs ps (m : Int) y (i : Int) ((m + 1 : Nat) : Int) (a : Int) = if encN (lst c (pays isZero (cs.drop (i + 1)) (ps.drop (i + 1))) p (a - c)) < (p : Int) then impl_ChangeFrom.l2 k cs ps (m : Int) (y.set i ((part (fun a => encN (needO (cs.drop i) (ps.drop i) a)) (fun _ => 0) m a).set a (wrap64 (encN (lst c (pays isZero (cs.drop (i + 1)) (ps.drop (i + 1))) p (a - c)) + 1)))) (i : Int) ((m + 1 : Nat) : Int) ((a + 1 : Nat) : Int)
            else impl_ChangeFrom.l2 k cs ps (m : Int) (y.set i ((part (fun a => encN (needO (cs.drop i) (ps.drop i) a)) (fun _ => 0) m a).set a 1001)) (i : Int) ((m + 1 : Nat) : Int) ((a + 1 : Nat) : Int) := fun k => by
          rw [impl_ChangeFrom.l2, w2.out, hnext, hval.out, hnone, hrow, hl1, hl2, w1.out, Int.toNat_natCast, Int.toNat_natCast, rd_eq cs i hi, hcn, e.out, hback.out, rd_eq ps i hip, hpn]
          clear goal hy' ih w1 w2 hval hnl hS e hback hst
          generalize encN (lst c (pays isZero (cs.drop (i + 1)) (ps.drop (i + 1))) p (a - c)) = z
          rw [if_pos (by omega), if_pos (by omega), if_pos (by omega), if_pos (by omega), if_pos (by omega), if_neg (by simp only [encN]; omega), if_pos (by omega), if_pos (by omega), if_pos (by omega), if_pos (by omega), if_pos (by omega), if_pos (by omega), if_pos (by omega)]
          by_cases hz : z < (p : Int)
          · rw [if_pos hz, if_pos hz, if_pos (by omega)]
          · rw [if_neg hz, if_neg hz, if_pos (by omega)]
        cases hlc : lst c (pays isZero (cs.drop (i + 1)) (ps.drop (i + 1))) p (a - c) with
        | none =>
          rw [hlc] at hst pre
          refine goal 1001 (by rw [hst]; rfl) fun k => ?_
          rw [pre, if_neg (by simp only [encN]; omega)]
        | some n =>
          have hn := lst_le _ _ _ _ _ hlc
          rw [hlc] at hst pre
          by_cases hnp : n < p
          · simp only [hnp, if_true] at hst
            refine goal (wrap64 (encN (some n) + 1)) (by rw [hst]; simp only [encN]; rw [w64 (by omega) (by omega)]; rfl) fun k => ?_
            rw [pre, if_pos (by simp only [encN]; omega)]
          · simp only [hnp, if_false] at hst
            refine goal 1001 (by rw [hst]; rfl) fun k => ?_
            rw [pre, if_neg (by simp only [encN]; omega)]
      · rw [if_neg hca] at hst
        refine goal 1001 (by rw [hst]; rfl) fun k => ?_
        rw [impl_ChangeFrom.l2, w2.out, hnext, hval.out, hnone, hrow, hl1, hl2, w1.out, Int.toNat_natCast, Int.toNat_natCast, rd_eq cs i hi, hcn]
        clear goal hy' ih w1 w2 hval hnl hS
        rw [if_pos (by omega), if_pos (by omega), if_pos (by omega), if_pos (by omega), if_pos (by omega), if_neg (by simp only [encN]; omega), if_pos (by omega), if_pos (by omega), if_neg (by omega), if_pos (by omega), if_pos (by omega)]
theorem need_rows (r : List Int × Bool) (h : ∀ y, Has cs ps m y 0 → Ev (fun k => impl_ChangeFrom.l1 k cs ps (m : Int) y (-1)) r) (i : Nat) : i ≤ cs.length → ∀ y, Has cs ps m y i → Ev (fun k => impl_ChangeFrom.l1 k cs ps (m : Int) y ((i : Int) - 1)) r := by
  induction i with
  | zero => intro _ y hy; exact h y hy
  | succ i ih =>
    intro hi y hy
    have hyl := hy.1
    have w1 : wrap64 ((m : Int) + 1) = ((m + 1 : Nat) : Int) := by rw [w64 (by omega) (by omega)]; rfl
    have h2 := need_row cs ps m hm hl h8 hc hp i (by omega) r (fun y hy => ih (by omega) y hy) (m + 1) 0 (y.set i (List.replicate (m + 1) 0)) (by omega) (by omega) ⟨by simpa using hyl, fun j h1 h2 => by rw [getD_set _ _ _ _ _ (by omega), if_neg (by omega)]; exact hy.2 j h1 h2⟩ (by rw [getD_set _ _ _ _ _ (by omega), if_pos rfl, part_none, tab_const])
    rw [show ((i + 1 : Nat) : Int) - 1 = (i : Int) by omega]
    refine Ev.step (fun k => ?_) h2
    rw [impl_ChangeFrom.l1, if_pos (by omega), w1, if_pos (by omega), if_pos (by omega), if_pos (by omega), if_pos (by omega), Option.bind_some, Int.toNat_natCast, Int.toNat_natCast, rd_L2_nat, getD_set _ _ _ _ _ (by omega), if_pos rfl, List.length_replicate]
    rfl
theorem need_last (r : List Int × Bool) (h : ∀ y, Has cs ps m y 0 → Ev (fun k => impl_ChangeFrom.l1 k cs ps (m : Int) y (-1)) r) (d : Nat) : ∀ a : Nat, m + 1 - a = d → a ≤ m + 1 →
    Ev (fun k => impl_ChangeFrom.l0 k cs ps (m : Int) (List.replicate (cs.length + 1) []) (part (fun _ => 1001) (fun _ => 0) m a) ((m + 1 : Nat) : Int) (a : Int)) r := by
  induction d with
  | zero =>
    intro a hd ha
    obtain rfl : a = m + 1 := by omega
    have e : (tabF (fun _ => (1001 : Int)) m).set 0 0 = ntab cs ps m cs.length := by
      have h0 := part_set (fun a => encN (needO [] [] a)) (fun _ => (1001 : Int)) m 0
      rw [part_none] at h0
      rw [show (0 : Int) = (fun a => encN (needO [] [] a)) 0 by rfl, h0]
      unfold ntab
      rw [List.drop_of_length_le (Nat.le_refl _), List.drop_of_length_le (by omega)]
      unfold part tabF
      refine List.map_congr_left fun x _ => ?_
      by_cases hx : x = 0
      · subst hx; rfl
      · rw [if_neg (by omega)]; simp [needO, isZero, hx, encN]
    refine Ev.step (fun k => ?_) (need_rows cs ps m hm hl h8 hc hp r h cs.length (by omega) ((List.replicate (cs.length + 1) []).set cs.length (ntab cs ps m cs.length)) ⟨by simp, fun j h1 h2 => by rw [getD_set _ _ _ _ _ (by simp), if_pos (by omega), show j = cs.length by omega]⟩)
    rw [impl_ChangeFrom.l0, if_neg (by omega), part_all, if_pos (by rw [tabF_length]; omega), if_pos (by omega), if_pos (by simp; omega), w64 (by omega) (by omega), Int.toNat_natCast, show (0 : Int).toNat = 0 by rfl, e]
  | succ d ih =>
    intro a hd ha
    have w1 : wrap64 ((a : Int) + 1) = ((a + 1 : Nat) : Int) := by rw [w64 (by omega) (by omega)]; rfl
    have h1 := ih (a + 1) (by omega) (by omega)
    rw [← part_set (fun _ => (1001 : Int)) (fun _ => 0) m a] at h1
    refine Ev.step (fun k => ?_) h1
    rw [impl_ChangeFrom.l0, if_pos (by omega), if_pos (by omega), if_pos (by rw [part_length]; omega), w1, Int.toNat_natCast]
/-- The program's run down to its tables. -/
theorem ChangeFrom_tabs (hco : purseB cs ps (m : Int) = true) (r : List Int × Bool) (h : ∀ y, Has cs ps m y 0 → Ev (fun k => impl_ChangeFrom.l1 k cs ps (m : Int) y (-1)) r) : Ev (fun k => impl_ChangeFrom.f k cs ps (m : Int)) r := by
  unfold impl_ChangeFrom.f
  have w1 : wrap64 ((m : Int) + 1) = ((m + 1 : Nat) : Int) := by rw [w64 (by omega) (by omega)]; rfl
  have w2 : wrap64 ((cs.length : Int) + 1) = ((cs.length + 1 : Nat) : Int) := by rw [w64 (by omega) (by omega)]; rfl
  rw [w1, w2]
  refine Ev.bind (isPurse_ev cs ps m (by omega) (by omega)) (Ev.if_pos' hco (Ev.if_pos' (by omega) (Ev.if_pos' (by omega) (Ev.if_pos' (by omega) (Ev.if_pos' (by omega) (Ev.some_bind ?_))))))
  have := need_last cs ps m hm hl h8 hc hp r h (m + 1) 0 (by omega) (by omega)
  rw [part_none, ← tab_const] at this
  simpa using this
end
/-- What a right purse is. -/
theorem purse_facts {l p : List Int} {a : Int} (h : purseB l p a = true) : coinsB l = true ∧ (0 ≤ a ∧ a ≤ 20000) ∧ l.length = p.length ∧ ∀ x ∈ p, 0 ≤ x ∧ x ≤ 1000 := by
  unfold purseB at h
  rw [Bool.and_eq_true, Bool.and_eq_true, Bool.and_eq_true, decide_eq_true_eq, decide_eq_true_eq] at h
  obtain ⟨⟨h1, h2⟩, h3, h4⟩ := h
  refine ⟨h1, h2, by omega, fun x hx => ?_⟩
  have := List.all_eq_true.1 h4 x hx
  simp at this
  omega

end Go.Proofs.Ytohghfeomocnlaa.Pure

/- Plain lemmas: the first change by a purse, by the program: whether there is one. -/
namespace Go.Proofs.Ytohghfeomocnlaa.Pure
open Go.RowKit Go.Proofs.Ytohghfeomocnlaa.C Go.Proofs.YtohghfeomocnlaaW.PrintWords Go.Proofs.YtohghfeomocnlaaW.PrintLast

/-- The change that the tables tell. -/
def outN (l p : List Int) : Nat → Nat → Nat → List Int
  | 0, _, _ => []
  | d + 1, i, v => (((needO (l.drop i) (p.drop i) v).getD 0 : Nat) : Int) :: outN l p d (i + 1) (v - (needO (l.drop i) (p.drop i) v).getD 0 * (l.getD i 0).toNat)
theorem can_out (l p : List Int) (hlp : l.length = p.length) (h8 : l.length ≤ 8) (hc : ∀ x ∈ l, 1 ≤ x ∧ x ≤ 1000) (hp : ∀ x ∈ p, 0 ≤ x ∧ x ≤ 1000) (m : Nat) (hm : m ≤ 20000) (y : List (List Int)) (hy : Has l p m y 0) (d : Nat) : ∀ (i : Nat) (A : List Int) (v : Nat), l.length - i = d → A.length = i → i ≤ l.length → v ≤ m → pays isZero (l.drop i) (p.drop i) v = true →
    Ev (fun k => impl_ChangeFrom.l3 k (v : Int) y A l (l.length : Int) (i : Int)) (A ++ outN l p d i v, true) := by
  induction d with
  | zero =>
    intro i A v hd hA hi hv hf
    refine Ev.one fun k => ?_
    rw [impl_ChangeFrom.l3, if_neg (by omega)]
    simp [outN]
  | succ d ih =>
    intro i A v hd hA hi hv hf
    have hil : i < l.length := by omega
    have hip : i < p.length := by omega
    have hci := hc l[i] (List.getElem_mem hil)
    have hpi := hp p[i] (List.getElem_mem hip)
    rw [← needO_some] at hf
    obtain ⟨n0, hn0⟩ := Option.isSome_iff_exists.1 hf
    have hy1 := hy.2 i (by omega) (by omega)
    have hyl := hy.1
    have hneed := hn0
    rw [List.drop_eq_getElem_cons hil, List.drop_eq_getElem_cons hip, needO] at hneed
    obtain ⟨h1, h2, h3⟩ := lst_first _ _ _ _ _ hneed
    have hle := lst_le _ _ _ _ _ hneed
    obtain ⟨c, hcn⟩ : ∃ c : Nat, l[i] = c := ⟨l[i].toNat, by omega⟩
    rw [hcn, Int.toNat_natCast] at h1 h2 h3
    have g3 := ih (i + 1) (A ++ [(n0 : Int)]) (v - n0 * c) (by omega) (by simp; omega) (by omega) (by omega) h2
    have hg : l.getD i 0 = l[i] := by simp [List.getD, hil]
    rw [outN, hn0, hg, hcn, Option.getD_some, Int.toNat_natCast]
    have hval : rd (y.getD i []) (v : Int) = (n0 : Int) := by
      rw [hy1]
      unfold ntab
      rw [rd_tab _ _ _ hv, hn0]
      rfl
    have hlen : (y.getD i []).length = m + 1 := by rw [hy1]; unfold ntab; rw [tabF_length]
    refine Ev.step (fun k => ?_) (by simpa using g3)
    have hmul : (n0 : Int) * (c : Int) = ((n0 * c : Nat) : Int) := by push_cast; rfl
    rw [impl_ChangeFrom.l3, rd_L2_nat, hval, hlen, rd_eq l i hil, hcn, hmul, w64 (x := ((n0 * c : Nat) : Int)) (by omega) (by omega), w64 (x := (v : Int) - ((n0 * c : Nat) : Int)) (by omega) (by omega), w64 (x := (i : Int) + 1) (by omega) (by omega)]
    clear hval hlen hmul
    rw [if_pos (by omega), if_pos (by omega), if_pos (by omega), if_pos (by omega), if_pos (by omega), if_pos (by omega), if_pos (by omega), show (v : Int) - ((n0 * c : Nat) : Int) = ((v - n0 * c : Nat) : Int) by omega]
    try rfl
/-- Is there change? -/
theorem ChangeFrom_can (l p : List Int) (m : Nat) (hco : purseB l p (m : Int) = true) :
    ∃ ns : List Int, Ev (fun k => impl_ChangeFrom.f k l p (m : Int)) (ns, pays isZero l p m) := by
  obtain ⟨h1, h2, h3, hp⟩ := purse_facts hco
  have hc := coins_mem h1
  have hl := coins_len h1
  have go : ∀ (r : List Int × Bool), (∀ y, Has l p m y 0 → Ev (fun k => impl_ChangeFrom.l1 k l p (m : Int) y (-1)) r) → Ev (fun k => impl_ChangeFrom.f k l p (m : Int)) r := fun r h =>
    ChangeFrom_tabs l p m (by omega) h3 (by omega) hc hp hco r h
  have hsome := needO_some l p m
  have tail : ∀ (y : List (List Int)), Has l p m y 0 → ∀ k, impl_ChangeFrom.l1 (k + 1) l p (m : Int) y (-1) = if encN (needO l p m) = 1001 then some (([] : List Int), false) else impl_ChangeFrom.l3 k (m : Int) y [] l (l.length : Int) 0 := fun y hy k => by
    have hy0 := hy.2 0 (by omega) (by omega)
    have hyl := hy.1
    have hval : rd (y.getD 0 []) (m : Int) = encN (needO l p m) := by
      rw [hy0]
      unfold ntab
      rw [rd_tab _ _ _ (Nat.le_refl m)]
      rfl
    have hlen : (y.getD 0 []).length = m + 1 := by rw [hy0]; unfold ntab; rw [tabF_length]
    rw [impl_ChangeFrom.l1, show rd_L2 y 0 = y.getD 0 [] from rfl, hval, hlen]
    clear hval hlen
    rw [if_neg (by omega), if_pos (by omega), if_pos (by omega), if_pos (by omega)]
  cases hpay : pays isZero l p m with
  | false =>
    rw [hpay] at hsome
    have hnone : needO l p m = none := Option.isNone_iff_eq_none.1 (by simpa using hsome)
    refine ⟨[], go _ fun y hy => Ev.one fun k => ?_⟩
    rw [tail y hy, hnone, if_pos (by rfl)]
  | true =>
    rw [hpay] at hsome
    obtain ⟨n, hn⟩ := Option.isSome_iff_exists.1 hsome
    have hn1 : n ≤ 1000 := by
      cases l with
      | nil => simp at hl
      | cons c cs =>
        cases p with
        | nil => simp at h3
        | cons q ps =>
          have := lst_le _ _ _ _ _ hn
          have := hp q List.mem_cons_self
          omega
    refine ⟨outN l p l.length 0 m, go _ fun y hy => ?_⟩
    have k3 := can_out l p h3 hl.2 hc hp m (by omega) y hy l.length 0 [] m (by omega) rfl (by omega) (by omega) (by simpa using hpay)
    refine Ev.step (fun k => ?_) (by simpa using k3)
    rw [tail y hy, hn, if_neg (by simp only [encN]; omega)]

end Go.Proofs.Ytohghfeomocnlaa.Pure
