/- Plain lemmas of several texts in one: Base, Coin0, Coin1, Tab0, Coin2, FewAdd, Fewer0, Mark, Best0, Purse0. -/
import Derived.Test.YtohghfeomocnlaaWWords
import Derived.Test.YtohghfeomocnlaaWMore
import Derived.Test.YtohghfeomocnlaaBx1
import Derived.Test.YtohghfeomocnlaaBx2
import Derived.Test.YtohghfeomocnlaaBx6
import Derived.Test.YtohghfeomocnlaaBx3
import Derived.Test.YtohghfeomocnlaaBx7
import Derived.Test.YtohghfeomocnlaaBx4
/- Plain lemmas on the laws' own helpers: copying a list, comparing two lists. -/
namespace Go.Proofs.Ytohghfeomocnlaa.Pure
open Go.RowKit Go.Proofs.Ytohghfeomocnlaa.B Go.Proofs.YtohghfeomocnlaaW.PrintWords Go.Proofs.YtohghfeomocnlaaW.PrintLast

theorem Ev.eq {α : Type} {g f : Nat → Option α} {r : α} (h : ∀ k, g (k + 1) = f k) (k : Ev f r) : Ev g r := Ev.step h k
theorem Ev.pure' {α : Type} {g : Nat → Option α} {r : α} (h : ∀ k, g k = some r) : Ev g r := ⟨0, fun k _ => h k⟩
theorem Ev.one {α : Type} {g : Nat → Option α} {r : α} (h : ∀ k, g (k + 1) = some r) : Ev g r := Ev.step (f := fun _ => some r) h (Ev.now r)
theorem Ev.some_bind {α β : Type} {f : Nat → α → Option β} {a : α} {r : β} (h : Ev (fun n => f n a) r) : Ev (fun n => (some a).bind (f n)) r := h
theorem Ev.if_pos' {α : Type} {c : Prop} [Decidable c] {g f : Nat → Option α} {r : α} (hc : c) (h : Ev g r) : Ev (fun n => if c then g n else f n) r := by
  simpa only [if_pos hc] using h
theorem Ev.if_neg' {α : Type} {c : Prop} [Decidable c] {g f : Nat → Option α} {r : α} (hc : ¬ c) (h : Ev f r) : Ev (fun n => if c then g n else f n) r := by
  simpa only [if_neg hc] using h
theorem Ev.const_bind {α β : Type} {g : Option α} {f : Nat → α → Option β} {a : α} {r : β} (h : g = some a) (k : Ev (fun n => f n a) r) : Ev (fun n => g.bind (f n)) r := by
  simpa only [h, Option.bind_some] using k
/-- More rounds may be taken. -/
theorem Ev.le {α : Type} {g f : Nat → Option α} {r : α} (h : Ev g r) (hle : ∀ k, LeO (g k) (f k)) : Ev f r := by
  obtain ⟨K, hK⟩ := h
  exact ⟨K, fun k hk => hle k _ (hK k hk)⟩

theorem w64 {x : Int} (h0 : -9223372036854775808 ≤ x) (h1 : x ≤ 9223372036854775807) : wrap64 x = x := by unfold wrap64; omega
theorem rd_eq (l : List Int) (i : Nat) (h : i < l.length) : rd l (i : Int) = l[i] := by simp [rd, h]
theorem rd_nat (l : List Int) (i : Nat) : rd l (i : Int) = l.getD i 0 := rfl

theorem l1In_eq (a b c : Int) : spec_l1In.f a b c = some (decide (b ≤ a ∧ a ≤ c)) := by
  unfold spec_l1In.f
  by_cases h : a ≥ b <;> simp [h, ge_iff_le] <;> omega
theorem within_eq (a b c : Int) : impl_within.f a b c = some (decide (b ≤ a ∧ a ≤ c)) := by
  unfold impl_within.f
  by_cases h : b ≤ a <;> simp [h]

theorem set_split (l : List Int) (i : Nat) (h : i < l.length) (v : Int) : l.set i v = l.take i ++ v :: l.drop (i + 1) := by
  rw [List.set_eq_take_append_cons_drop, if_pos h]

theorem toIntS_loop (l : List Int) (hl : l.length ≤ 35184372088832) (d : Nat) : ∀ (i : Nat) (acc : List Int), acc.length = l.length → l.length - i = d → i ≤ l.length → acc.take i = l.take i →
    Ev (fun k => laws_toIntS.l0 k l acc (i : Int)) l := by
  induction d with
  | zero =>
    intro i acc ha hd hi he
    have hil : i = l.length := by omega
    refine Ev.one fun k => ?_
    rw [laws_toIntS.l0, if_neg (by omega)]
    have := he; rw [hil] at this
    rw [List.take_length, ← ha, List.take_length] at this
    rw [this]
  | succ d ih =>
    intro i acc ha hd hi he
    refine Ev.step (f := fun k => laws_toIntS.l0 k l (acc.set i l[i]!) ((i + 1 : Nat) : Int)) (fun k => ?_) (ih (i + 1) _ (by simpa using ha) (by omega) (by omega) ?_)
    · rw [laws_toIntS.l0, if_pos (by omega), if_pos (by omega), if_pos (by omega), w64 (by omega) (by omega)]
      have : rd l (i : Int) = l[i]! := by rw [rd_eq l i (by omega), getElem!_pos l i (by omega)]
      rw [this]
      rfl
    · rw [getElem!_pos l i (by omega), List.take_succ_eq_append_getElem (by simp; omega), List.take_succ_eq_append_getElem (l := l) (by omega), List.take_set_of_le (by omega), he]
      simp
theorem toIntS_ev (l : List Int) (hl : l.length ≤ 35184372088832) : Ev (fun k => laws_toIntS.f k l) l := by
  unfold laws_toIntS.f
  refine Ev.if_pos' (by omega) (Ev.if_pos' (by omega) ?_)
  exact toIntS_loop l hl l.length 0 _ (by simp) (by omega) (by omega) (by simp)

theorem eqIntS_loop (a b : List Int) (hab : a.length = b.length) (hl : a.length ≤ 35184372088832) (d : Nat) : ∀ (i : Nat), a.length - i = d → i ≤ a.length →
    Ev (fun k => laws_eqIntS.l0 k a b (i : Int)) (decide (a.drop i = b.drop i)) := by
  induction d with
  | zero =>
    intro i hd hi
    refine Ev.one fun k => ?_
    rw [laws_eqIntS.l0, if_neg (by omega), List.drop_of_length_le (by omega), List.drop_of_length_le (by omega)]
    simp
  | succ d ih =>
    intro i hd hi
    have hi' : i < a.length := by omega
    have h := ih (i + 1) (by omega) (by omega)
    have hib : i < b.length := by omega
    rw [List.drop_eq_getElem_cons hi', List.drop_eq_getElem_cons hib]
    by_cases he : a[i] = b[i]
    · refine Ev.step (f := fun k => laws_eqIntS.l0 k a b ((i + 1 : Nat) : Int)) (fun k => ?_) (by simp only [he, List.cons.injEq, true_and]; exact h)
      rw [laws_eqIntS.l0, if_pos (by omega), if_pos (by omega), if_pos (by omega), if_pos (by rw [rd_eq a i hi', rd_eq b i hib, he]), w64 (by omega) (by omega)]
      rfl
    · refine Ev.one fun k => ?_
      rw [laws_eqIntS.l0, if_pos (by omega), if_pos (by omega), if_pos (by omega), if_neg (by rw [rd_eq a i hi', rd_eq b i hib]; exact he)]
      rw [decide_eq_false (fun e => he (List.cons.inj e).1)]
theorem eqIntS_ev (a b : List Int) (hl : a.length ≤ 35184372088832) : Ev (fun k => laws_eqIntS.f k a b) (decide (a = b)) := by
  unfold laws_eqIntS.f
  by_cases h : a.length = b.length
  · refine Ev.if_pos' (by omega) ?_
    simpa using eqIntS_loop a b h hl a.length 0 (by omega) (by omega)
  · refine Ev.if_neg' (by omega) ?_
    rw [decide_eq_false (fun e => h (by rw [e]))]
    exact Ev.now _
theorem eqIntS_self (a : List Int) (hl : a.length ≤ 35184372088832) : Ev (fun k => laws_eqIntS.f k a a) true := by
  simpa using eqIntS_ev a a hl

end Go.Proofs.Ytohghfeomocnlaa.Pure

/- Plain lemmas: which lists are coins, by the program and by the reference. -/
namespace Go.Proofs.Ytohghfeomocnlaa.Pure
open Go.RowKit Go.Proofs.Ytohghfeomocnlaa.B Go.Proofs.YtohghfeomocnlaaW.PrintWords Go.Proofs.YtohghfeomocnlaaW.PrintLast

def risesB : List Int → Bool
  | a :: b :: t => decide (a < b) && risesB (b :: t)
  | _ => true
def inB (lo hi : Int) (l : List Int) : Bool := l.all fun x => decide (lo ≤ x) && decide (x ≤ hi)

theorem drop_two (l : List Int) (i : Nat) (h1 : 1 ≤ i) (h : i < l.length) : l.drop (i - 1) = l[i - 1] :: l[i] :: l.drop (i + 1) := by
  rw [List.drop_eq_getElem_cons (by omega : i - 1 < l.length), show i - 1 + 1 = i by omega, List.drop_eq_getElem_cons h]
theorem rises_short (l : List Int) (i : Nat) (h : l.length ≤ i) : risesB (l.drop (i - 1)) = true := by
  have hs : (l.drop (i - 1)).length ≤ 1 := by rw [List.length_drop]; omega
  match l.drop (i - 1), hs with
  | [], _ => rfl
  | [a], _ => rfl

theorem inB_cons (lo hi a : Int) (t : List Int) : inB lo hi (a :: t) = (decide (lo ≤ a ∧ a ≤ hi) && inB lo hi t) := by simp [inB]
theorem rises_loop (l : List Int) (hl : l.length ≤ 35184372088832) (d : Nat) : ∀ (i : Nat), 1 ≤ i → l.length - i = d → i ≤ 35184372088833 →
    Ev (fun k => impl_rises.l0 k l (i : Int)) (risesB (l.drop (i - 1))) := by
  induction d with
  | zero =>
    intro i h1 hd hi
    rw [rises_short l i (by omega)]
    exact Ev.one fun k => by rw [impl_rises.l0, if_neg (by omega)]
  | succ d ih =>
    intro i h1 hd hi
    have hil : i < l.length := by omega
    have e1 : wrap64 ((i : Int) - 1) = ((i - 1 : Nat) : Int) := by rw [w64 (by omega) (by omega)]; omega
    rw [drop_two l i h1 hil, risesB]
    by_cases hc : l[i - 1] < l[i]
    · have h := ih (i + 1) (by omega) (by omega) (by omega)
      rw [show i + 1 - 1 = i by omega, List.drop_eq_getElem_cons hil] at h
      rw [decide_eq_true hc, Bool.true_and]
      refine Ev.step (f := fun k => impl_rises.l0 k l ((i + 1 : Nat) : Int)) (fun k => ?_) h
      rw [impl_rises.l0, if_pos (by omega), e1, if_pos (by omega), if_pos (by omega), if_pos (by omega), rd_eq l i hil, rd_eq l (i - 1) (by omega), if_neg (by omega), w64 (by omega) (by omega)]
      rfl
    · rw [decide_eq_false hc, Bool.false_and]
      refine Ev.one fun k => ?_
      rw [impl_rises.l0, if_pos (by omega), e1, if_pos (by omega), if_pos (by omega), if_pos (by omega), rd_eq l i hil, rd_eq l (i - 1) (by omega), if_pos (by omega)]
theorem rises_ev (l : List Int) (hl : l.length ≤ 35184372088832) : Ev (fun k => impl_rises.f k l) (risesB l) := by
  unfold impl_rises.f
  exact rises_loop l hl (l.length - 1) 1 (by omega) rfl (by omega)

theorem l1Rising_loop (l : List Int) (lo hi : Int) (hl : l.length ≤ 35184372088832) (d : Nat) : ∀ (i : Nat), 1 ≤ i → l.length - i = d → i ≤ 35184372088833 →
    Ev (fun k => spec_l1Rising.l0 k l lo hi l (l.length : Int) (i : Int)) (inB lo hi (l.drop i) && risesB (l.drop (i - 1))) := by
  induction d with
  | zero =>
    intro i h1 hd hi
    rw [rises_short l i (by omega), List.drop_of_length_le (by omega)]
    exact Ev.one fun k => by rw [spec_l1Rising.l0, if_neg (by omega)]; rfl
  | succ d ih =>
    intro i h1 hd hi'
    have hil : i < l.length := by omega
    have e1 : wrap64 ((i : Int) - 1) = ((i - 1 : Nat) : Int) := by rw [w64 (by omega) (by omega)]; omega
    rw [drop_two l i h1 hil, risesB, List.drop_eq_getElem_cons hil]
    rw [inB_cons]
    by_cases hb : lo ≤ l[i] ∧ l[i] ≤ hi
    · rw [decide_eq_true hb, Bool.true_and]
      by_cases hc : l[i - 1] < l[i]
      · have h := ih (i + 1) (by omega) (by omega) (by omega)
        rw [show i + 1 - 1 = i by omega, List.drop_eq_getElem_cons hil] at h
        rw [decide_eq_true hc, Bool.true_and]
        refine Ev.step (f := fun k => spec_l1Rising.l0 k l lo hi l (l.length : Int) ((i + 1 : Nat) : Int)) (fun k => ?_) h
        rw [spec_l1Rising.l0, if_pos (by omega), if_pos (by omega), if_pos (by omega), rd_eq l i hil, l1In_eq, decide_eq_true hb, Option.bind_some, if_pos rfl, if_pos (by omega), e1, if_pos (by omega), if_pos (by omega), rd_eq l (i - 1) (by omega), if_neg (by omega), w64 (by omega) (by omega)]
        rfl
      · rw [decide_eq_false hc, Bool.false_and, Bool.and_false]
        refine Ev.one fun k => ?_
        rw [spec_l1Rising.l0, if_pos (by omega), if_pos (by omega), if_pos (by omega), rd_eq l i hil, l1In_eq, decide_eq_true hb, Option.bind_some, if_pos rfl, if_pos (by omega), e1, if_pos (by omega), if_pos (by omega), rd_eq l (i - 1) (by omega), if_pos (by omega)]
    · rw [decide_eq_false hb, Bool.false_and, Bool.false_and]
      refine Ev.one fun k => ?_
      rw [spec_l1Rising.l0, if_pos (by omega), if_pos (by omega), if_pos (by omega), rd_eq l i hil, l1In_eq, decide_eq_false hb, Option.bind_some, if_neg (by simp)]
theorem l1Rising_ev (l : List Int) (lo hi : Int) (hl : l.length ≤ 35184372088832) : Ev (fun k => spec_l1Rising.f k l lo hi) (inB lo hi l && risesB l) := by
  unfold spec_l1Rising.f
  cases l with
  | nil => exact Ev.one fun k => by rw [spec_l1Rising.l0, if_neg (by simp)]; rfl
  | cons a t =>
    have hil : 0 < (a :: t).length := by simp
    have h := l1Rising_loop (a :: t) lo hi hl ((a :: t).length - 1) 1 (by omega) rfl (by omega)
    rw [inB_cons]
    by_cases hb : lo ≤ a ∧ a ≤ hi
    · rw [decide_eq_true hb, Bool.true_and]
      refine Ev.step (f := fun k => spec_l1Rising.l0 k (a :: t) lo hi (a :: t) ((a :: t).length : Int) ((1 : Nat) : Int)) (fun k => ?_) h
      rw [spec_l1Rising.l0, if_pos (by omega), if_pos (by omega), if_pos (by omega), show rd (a :: t) 0 = a from rfl, l1In_eq, decide_eq_true hb, Option.bind_some, if_pos rfl, if_neg (by omega), w64 (by omega) (by omega)]
      rfl
    · rw [decide_eq_false hb, Bool.false_and, Bool.false_and]
      refine Ev.one fun k => ?_
      rw [spec_l1Rising.l0, if_pos (by omega), if_pos (by omega), if_pos (by omega), show rd (a :: t) 0 = a from rfl, l1In_eq, decide_eq_false hb, Option.bind_some, if_neg (by simp)]
theorem areWithin_eq (l : List Int) (lo hi : Int) (hl : l.length ≤ 35184372088832) : impl_areWithin.f l lo hi = some (inB lo hi l) := by
  unfold impl_areWithin.f
  rw [if_pos (by omega)]
  rfl
/-- What coins are. -/
def coinsB (l : List Int) : Bool := decide (1 ≤ (l.length : Int) ∧ (l.length : Int) ≤ 8) && (inB 1 1000 l && risesB l)
theorem cnGood_ev (l : List Int) (hl : l.length ≤ 35184372088832) : Ev (fun k => spec_cnGood.f k l) (coinsB l) := by
  unfold spec_cnGood.f coinsB
  refine Ev.const_bind (l1In_eq _ _ _) ?_
  by_cases h : 1 ≤ (l.length : Int) ∧ (l.length : Int) ≤ 8
  · rw [decide_eq_true h, Bool.true_and]
    exact Ev.if_pos' rfl (Ev.bind (l1Rising_ev l 1 1000 hl) (Ev.now _))
  · rw [decide_eq_false h, Bool.false_and]
    exact Ev.if_neg' (by simp) (Ev.now _)
theorem AreCoins_ev (l : List Int) (hl : l.length ≤ 35184372088832) : Ev (fun k => impl_AreCoins.f k l) (coinsB l) := by
  unfold impl_AreCoins.f coinsB
  refine Ev.const_bind (within_eq _ _ _) ?_
  by_cases h : 1 ≤ (l.length : Int) ∧ (l.length : Int) ≤ 8
  · rw [decide_eq_true h, Bool.true_and]
    refine Ev.if_pos' rfl (Ev.const_bind (areWithin_eq l 1 1000 hl) ?_)
    cases h2 : inB 1 1000 l with
    | true => exact Ev.if_pos' rfl (Ev.bind (rises_ev l hl) (Ev.now _))
    | false => exact Ev.if_neg' (by simp) (Ev.now _)
  · rw [decide_eq_false h, Bool.false_and]
    exact Ev.if_neg' (by simp) (Ev.now _)
theorem coins_len {l : List Int} (h : coinsB l = true) : 1 ≤ l.length ∧ l.length ≤ 8 := by
  simp [coinsB] at h; omega
theorem coins_mem {l : List Int} (h : coinsB l = true) : ∀ x ∈ l, 1 ≤ x ∧ x ≤ 1000 := by
  simp [coinsB, inB] at h; exact h.2.1
end Go.Proofs.Ytohghfeomocnlaa.Pure

/- Plain lemmas: coins and an amount, by the program and by the reference. -/
namespace Go.Proofs.Ytohghfeomocnlaa.Pure
open Go.RowKit Go.Proofs.Ytohghfeomocnlaa.B Go.Proofs.YtohghfeomocnlaaW.PrintWords Go.Proofs.YtohghfeomocnlaaW.PrintLast

theorem cnAsked_ev (l : List Int) (a : Int) (hl : l.length ≤ 35184372088832) : Ev (fun k => spec_cnAsked.f k l a) (coinsB l && decide (0 ≤ a ∧ a ≤ 20000)) := by
  unfold spec_cnAsked.f
  refine Ev.bind (cnGood_ev l hl) ?_
  cases h : coinsB l with
  | true => exact Ev.if_pos' rfl (Ev.const_bind (l1In_eq _ _ _) (Ev.now _))
  | false => exact Ev.if_neg' (by simp) (Ev.now _)
theorem isAmount_ev (l : List Int) (a : Int) (hl : l.length ≤ 35184372088832) : Ev (fun k => impl_isAmount.f k l a) (coinsB l && decide (0 ≤ a ∧ a ≤ 20000)) := by
  unfold impl_isAmount.f
  refine Ev.bind (AreCoins_ev l hl) ?_
  cases h : coinsB l with
  | true => exact Ev.if_pos' rfl (Ev.const_bind (within_eq _ _ _) (Ev.now _))
  | false => exact Ev.if_neg' (by simp) (Ev.now _)
/-- The rest of a law without a slice among its results: the argument is as it was. -/
theorem same_end (l : List Int) (hl : l.length ≤ 35184372088832) : Ev (fun k => (laws_toIntS.f k l).bind fun t => (laws_eqIntS.f k l t).bind fun u => if u = true then some true else some false) true :=
  Ev.bind (toIntS_ev l hl) (Ev.bind (eqIntS_self l hl) (Ev.if_pos' rfl (Ev.now _)))

end Go.Proofs.Ytohghfeomocnlaa.Pure

/- Plain lemmas on tables as lists: reading, writing; a number that is there or not, as the programs write it. -/
namespace Go.Proofs.Ytohghfeomocnlaa.Pure
open Go.RowKit Go.Proofs.Ytohghfeomocnlaa.B Go.Proofs.YtohghfeomocnlaaW.PrintWords Go.Proofs.YtohghfeomocnlaaW.PrintLast

theorem getD_lt {α : Type} (A B : List α) (d : α) (i : Nat) (h : i < A.length) : (A ++ B).getD i d = A.getD i d := by simp [List.getD, List.getElem?_append_left h]
theorem getD_ge {α : Type} (A B : List α) (d : α) (i : Nat) (h : A.length ≤ i) : (A ++ B).getD i d = B.getD (i - A.length) d := by simp [List.getD, List.getElem?_append_right h]
theorem getD_out {α : Type} (A : List α) (d : α) (i : Nat) (h : A.length ≤ i) : A.getD i d = d := by simp [List.getD, List.getElem?_eq_none h]
theorem mn_lt {a b : Int} (h : b < a) : mn a b = b := if_pos h
theorem mn_ge {a b : Int} (h : a ≤ b) : mn a b = a := if_neg (by omega)
/-- How the reference writes it; how the program writes it in a table up to m. -/
def encS : Option Nat → Int
  | none => -1
  | some n => n
def encP (m : Nat) : Option Nat → Int
  | none => m + 1
  | some n => n
theorem rd_app_lt (A B : List Int) (i : Nat) (h : i < A.length) : rd (A ++ B) (i : Int) = A.getD i 0 := by
  rw [rd_nat, getD_lt _ _ _ _ h]
theorem rd_app_at (A : List Int) (x : Int) (B : List Int) : rd (A ++ x :: B) (A.length : Int) = x := by
  rw [rd_nat, getD_ge _ _ _ _ (by omega)]; simp
theorem set_at (A : List Int) (x y : Int) (B : List Int) : (A ++ x :: B).set A.length y = A ++ y :: B := by
  simp
theorem getD_map {α : Type} (f : α → Int) (A : List α) (d : α) (i : Nat) (h : i < A.length) : (A.map f).getD i 0 = f (A.getD i d) := by
  simp [List.getD, h]


end Go.Proofs.Ytohghfeomocnlaa.Pure

/- Plain lemmas: the fewest coins for each amount, and that the program's and the reference's tables hold them. -/
namespace Go.Proofs.Ytohghfeomocnlaa.Pure
open Go.RowKit Go.Proofs.Ytohghfeomocnlaa.B Go.Proofs.YtohghfeomocnlaaW.PrintWords Go.Proofs.YtohghfeomocnlaaW.PrintLast

def omin : Option Nat → Option Nat → Option Nat
  | none, b => b
  | some a, none => some a
  | some a, some b => some (if b < a then b else a)
def best (T : List (Option Nat)) (v : Nat) : List Int → Option Nat → Option Nat
  | [], acc => acc
  | c :: cs, acc => best T v cs (if c ≤ v then omin acc ((T.getD (v - c.toNat) none).map (· + 1)) else acc)
/-- The fewest coins for 0, 1, .., n. -/
def fewT (cs : List Int) : Nat → List (Option Nat)
  | 0 => [some 0]
  | n + 1 => fewT cs n ++ [best (fewT cs n) (n + 1) cs none]
def few (cs : List Int) (v : Nat) : Option Nat := (fewT cs v).getD v none
theorem fewT_length (cs : List Int) (n : Nat) : (fewT cs n).length = n + 1 := by
  induction n with
  | zero => rfl
  | succ n ih => simp [fewT, ih]
theorem fewT_get (cs : List Int) (n v : Nat) (h : v ≤ n) : (fewT cs n).getD v none = few cs v := by
  induction n with
  | zero => have : v = 0 := by omega
            subst this; rfl
  | succ n ih =>
    by_cases e : v = n + 1
    · subst e; rfl
    · rw [← ih (by omega), fewT, getD_lt _ _ _ _ (by rw [fewT_length]; omega)]
theorem few_zero (cs : List Int) : few cs 0 = some 0 := rfl
theorem few_succ (cs : List Int) (n : Nat) : few cs (n + 1) = best (fewT cs n) (n + 1) cs none := by
  unfold few
  rw [fewT, getD_ge _ _ _ _ (by rw [fewT_length]; omega), fewT_length]
  simp

theorem best_le (T : List (Option Nat)) (v : Nat) (hT : ∀ i n, T.getD i none = some n → n ≤ i) (cs : List Int) (hc : ∀ x ∈ cs, 1 ≤ x) : ∀ acc, (∀ n, acc = some n → n ≤ v) → ∀ n, best T v cs acc = some n → n ≤ v := by
  induction cs with
  | nil => intro acc ha n h; exact ha n h
  | cons c cs ih =>
    intro acc ha n h
    refine ih (fun x hx => hc x (List.mem_cons_of_mem _ hx)) _ (fun m hm => ?_) n h
    have h1 := hc c List.mem_cons_self
    by_cases hcv : c ≤ v
    · rw [if_pos hcv] at hm
      cases hg : T.getD (v - c.toNat) none with
      | none => rw [hg] at hm; cases acc with
        | none => simp [omin] at hm
        | some a => simp [omin] at hm; exact ha m (by rw [hm])
      | some b =>
        have hb := hT _ _ hg
        rw [hg] at hm; cases acc with
        | none => simp [omin] at hm; omega
        | some a =>
          have := ha a rfl
          simp [omin] at hm
          split at hm <;> omega
    · rw [if_neg hcv] at hm; exact ha m hm
theorem few_le (cs : List Int) (hc : ∀ x ∈ cs, 1 ≤ x) (v : Nat) : ∀ n, few cs v = some n → n ≤ v := by
  induction v using Nat.strongRecOn with
  | ind v ih =>
    intro n h
    cases v with
    | zero => rw [few_zero] at h; cases h; omega
    | succ v =>
      rw [few_succ] at h
      refine best_le _ _ (fun i m hm => ?_) cs hc none (fun _ h => by cases h) n h
      by_cases hi : i ≤ v
      · rw [fewT_get _ _ _ hi] at hm; exact ih i (by omega) m hm
      · rw [getD_out _ _ _ (by rw [fewT_length]; omega)] at hm; cases hm
theorem fewT_le (cs : List Int) (hc : ∀ x ∈ cs, 1 ≤ x) (v i n : Nat) (h : (fewT cs v).getD i none = some n) : n ≤ i := by
  by_cases hi : i ≤ v
  · rw [fewT_get _ _ _ hi] at h; exact few_le cs hc i n h
  · rw [getD_out _ _ _ (by rw [fewT_length]; omega)] at h; cases h

section
variable (cs : List Int) (hc : ∀ x ∈ cs, 1 ≤ x ∧ x ≤ 1000) (hl : cs.length ≤ 35184372088832) (m : Nat) (hm : m ≤ 2000000) (A : List (Option Nat)) (B : List Int)
  (hA : ∀ i n, A.getD i none = some n → n ≤ i) (hv : 1 ≤ A.length) (hvm : A.length + B.length = m) (hacc : Option Nat)
include hc hl hm hA hv hvm

set_option maxHeartbeats 1000000 in
theorem cnFew1 (r : List Int) (d : Nat) : ∀ (i : Nat) (acc : Option Nat), cs.length - i = d → i ≤ cs.length → (∀ n, acc = some n → n ≤ A.length) →
    Ev (fun k => spec_cnFew.l0 k cs (m : Int) (A.map encS ++ encS (best A A.length (cs.drop i) acc) :: B) (((A.length + 1 : Nat)) : Int)) r →
    Ev (fun k => spec_cnFew.l1 k cs (m : Int) (A.map encS ++ encS acc :: B) (A.length : Int) cs (cs.length : Int) (i : Int)) r := by
  induction d with
  | zero =>
    intro i acc hd hi ha h
    rw [List.drop_of_length_le (by omega)] at h
    refine Ev.step (fun k => ?_) h
    rw [spec_cnFew.l1, if_neg (by omega), w64 (by omega) (by omega)]
    rfl
  | succ d ih =>
    intro i acc hd hi ha h
    have hil : i < cs.length := by omega
    have hci := hc cs[i] (List.getElem_mem hil)
    have hlen : (A.map encS ++ encS acc :: B).length = m + 1 := by simp; omega
    rw [List.drop_eq_getElem_cons hil, best] at h
    have w1 : wrap64 ((i : Int) + 1) = ((i + 1 : Nat) : Int) := by rw [w64 (by omega) (by omega)]; rfl
    have hAl : (A.map encS).length = A.length := by simp
    have hat : rd (A.map encS ++ encS acc :: B) (A.length : Int) = encS acc := by rw [← hAl]; exact rd_app_at _ _ _
    have hset : ∀ y, (A.map encS ++ encS acc :: B).set (A.length : Int).toNat y = A.map encS ++ y :: B := fun y => by
      have := set_at (A.map encS) (encS acc) y B
      rw [hAl] at this; exact this
    by_cases hcv : cs[i] ≤ (A.length : Int)
    · rw [if_pos hcv] at h
      have w2 : wrap64 ((A.length : Int) - cs[i]) = ((A.length - cs[i].toNat : Nat) : Int) := by rw [w64 (by omega) (by omega)]; omega
      have hget : rd (A.map encS ++ encS acc :: B) ((A.length - cs[i].toNat : Nat) : Int) = encS (A.getD (A.length - cs[i].toNat) none) := by
        rw [rd_app_lt _ _ _ (by rw [hAl]; omega), getD_map _ _ none _ (by omega)]
      have pre : ∀ k, spec_cnFew.l1 (k + 1) cs (m : Int) (A.map encS ++ encS acc :: B) (A.length : Int) cs (cs.length : Int) (i : Int) =
          (if encS (A.getD (A.length - cs[i].toNat) none) ≥ 0 then (if encS acc < 0 then (spec_cnFew.l1 k cs (m : Int) (A.map encS ++ (wrap64 (encS (A.getD (A.length - cs[i].toNat) none) + 1)) :: B) (A.length : Int) cs (cs.length : Int) ((i + 1 : Nat) : Int))
            else (if wrap64 (encS (A.getD (A.length - cs[i].toNat) none) + 1) < encS acc then (spec_cnFew.l1 k cs (m : Int) (A.map encS ++ (wrap64 (encS (A.getD (A.length - cs[i].toNat) none) + 1)) :: B) (A.length : Int) cs (cs.length : Int) ((i + 1 : Nat) : Int))
              else (spec_cnFew.l1 k cs (m : Int) (A.map encS ++ encS acc :: B) (A.length : Int) cs (cs.length : Int) ((i + 1 : Nat) : Int))))
            else (spec_cnFew.l1 k cs (m : Int) (A.map encS ++ encS acc :: B) (A.length : Int) cs (cs.length : Int) ((i + 1 : Nat) : Int))) := fun k => by
        rw [spec_cnFew.l1, if_pos (by omega), if_pos (by omega), if_pos (by omega), rd_eq cs i hil, if_pos (by omega), w2, if_pos (by omega), if_pos (by omega), hget, w1, if_pos (show (0 : Int) ≤ (A.length : Int) by omega), if_pos (show (A.length : Int) < ((A.map encS ++ encS acc :: B).length : Int) by omega), hat, hset]
      clear hget hat hset hlen hAl
      cases hg : A.getD (A.length - cs[i].toNat) none with
      | none =>
        rw [hg] at h pre
        have e : omin acc (Option.map (· + 1) none) = acc := by cases acc <;> rfl
        rw [e] at h
        exact Ev.step (fun k => by rw [pre, if_neg (by simp [encS])]) (ih (i + 1) acc (by omega) (by omega) ha h)
      | some b =>
        have hb := hA _ _ hg
        rw [hg] at h pre
        have w3 : wrap64 (encS (some b) + 1) = encS (some (b + 1)) := by rw [w64 (by simp [encS]; omega) (by simp [encS]; omega)]; rfl
        rw [w3] at pre
        cases acc with
        | none => exact Ev.step (fun k => by rw [pre, if_pos (by simp [encS]), if_pos (by simp [encS])]) (ih (i + 1) (some (b + 1)) (by omega) (by omega) (fun n hn => by cases hn; omega) h)
        | some a =>
          have ha' := ha a rfl
          by_cases hlt : b + 1 < a
          · have e : omin (some a) (Option.map (· + 1) (some b)) = some (b + 1) := by simp [omin, hlt]
            rw [e] at h
            exact Ev.step (fun k => by rw [pre, if_pos (by simp [encS]), if_neg (by simp [encS]), if_pos (by simp only [encS]; omega)]) (ih (i + 1) (some (b + 1)) (by omega) (by omega) (fun n hn => by cases hn; omega) h)
          · have e : omin (some a) (Option.map (· + 1) (some b)) = some a := by simp [omin, hlt]
            rw [e] at h
            exact Ev.step (fun k => by rw [pre, if_pos (by simp [encS]), if_neg (by simp [encS]), if_neg (by simp only [encS]; omega)]) (ih (i + 1) (some a) (by omega) (by omega) ha h)
    · rw [if_neg hcv] at h
      refine Ev.step (fun k => ?_) (ih (i + 1) acc (by omega) (by omega) ha h)
      rw [spec_cnFew.l1, if_pos (by omega), if_pos (by omega), if_pos (by omega), rd_eq cs i hil, if_neg (by omega), w1]

set_option maxHeartbeats 1000000 in
theorem few1 (r : List Int) (d : Nat) : ∀ (i : Nat) (acc : Option Nat), cs.length - i = d → i ≤ cs.length → (∀ n, acc = some n → n ≤ A.length) →
    Ev (fun k => impl_fewStamps.l0 k cs (m : Int) (A.map (encP m) ++ encP m (best A A.length (cs.drop i) acc) :: B) (((A.length + 1 : Nat)) : Int)) r →
    Ev (fun k => impl_fewStamps.l1 k cs (m : Int) (A.map (encP m) ++ encP m acc :: B) (A.length : Int) cs (cs.length : Int) (i : Int)) r := by
  induction d with
  | zero =>
    intro i acc hd hi ha h
    rw [List.drop_of_length_le (by omega)] at h
    refine Ev.step (fun k => ?_) h
    rw [impl_fewStamps.l1, if_neg (by omega), w64 (by omega) (by omega)]
    rfl
  | succ d ih =>
    intro i acc hd hi ha h
    have hil : i < cs.length := by omega
    have hci := hc cs[i] (List.getElem_mem hil)
    have hlen : (A.map (encP m) ++ encP m acc :: B).length = m + 1 := by simp; omega
    rw [List.drop_eq_getElem_cons hil, best] at h
    have w1 : wrap64 ((i : Int) + 1) = ((i + 1 : Nat) : Int) := by rw [w64 (by omega) (by omega)]; rfl
    have hAl : (A.map (encP m)).length = A.length := by simp
    have hat : rd (A.map (encP m) ++ encP m acc :: B) (A.length : Int) = encP m acc := by rw [← hAl]; exact rd_app_at _ _ _
    have hset : ∀ y, (A.map (encP m) ++ encP m acc :: B).set (A.length : Int).toNat y = A.map (encP m) ++ y :: B := fun y => by
      have := set_at (A.map (encP m)) (encP m acc) y B
      rw [hAl] at this; exact this
    by_cases hcv : cs[i] ≤ (A.length : Int)
    · rw [if_pos hcv] at h
      have w2 : wrap64 ((A.length : Int) - cs[i]) = ((A.length - cs[i].toNat : Nat) : Int) := by rw [w64 (by omega) (by omega)]; omega
      have hget : rd (A.map (encP m) ++ encP m acc :: B) ((A.length - cs[i].toNat : Nat) : Int) = encP m (A.getD (A.length - cs[i].toNat) none) := by
        rw [rd_app_lt _ _ _ (by rw [hAl]; omega), getD_map _ _ none _ (by omega)]
      refine Ev.step (fun k => ?_) (ih (i + 1) (omin acc (Option.map (· + 1) (A.getD (A.length - cs[i].toNat) none))) (by omega) (by omega) (fun n hn => ?_) h)
      · rw [impl_fewStamps.l1, if_pos (by omega), if_pos (by omega), if_pos (by omega), rd_eq cs i hil, if_pos (by omega), if_pos (by omega), if_pos (by omega), w2, if_pos (by omega), if_pos (by omega), hget, hat, w1, hset]
        have e : mn (encP m acc) (wrap64 (encP m (A.getD (A.length - cs[i].toNat) none) + 1)) = encP m (omin acc (Option.map (· + 1) (A.getD (A.length - cs[i].toNat) none))) := by
          cases hg : A.getD (A.length - cs[i].toNat) none with
          | none =>
            rw [w64 (by simp [encP]; omega) (by simp [encP]; omega)]
            cases acc with
            | none => exact mn_ge (by simp only [encP]; omega)
            | some a => have := ha a rfl; exact mn_ge (by simp only [encP]; omega)
          | some b =>
            have hb := hA _ _ hg
            rw [w64 (by simp [encP]; omega) (by simp [encP]; omega)]
            cases acc with
            | none => exact mn_lt (by simp only [encP]; omega)
            | some a =>
              have := ha a rfl
              by_cases hlt : b + 1 < a
              · rw [mn_lt (by simp only [encP]; omega)]; simp [omin, hlt, encP]
              · rw [mn_ge (by simp only [encP]; omega)]; simp [omin, hlt, encP]
        rw [e]
      · cases hg : A.getD (A.length - cs[i].toNat) none with
        | none => rw [hg] at hn; cases acc with
          | none => simp [omin] at hn
          | some a => simp [omin] at hn; exact ha n (by rw [hn])
        | some b =>
          have hb := hA _ _ hg
          rw [hg] at hn; cases acc with
          | none => simp [omin] at hn; omega
          | some a =>
            have := ha a rfl
            simp [omin] at hn
            split at hn <;> omega
    · rw [if_neg hcv] at h
      refine Ev.step (fun k => ?_) (ih (i + 1) acc (by omega) (by omega) ha h)
      rw [impl_fewStamps.l1, if_pos (by omega), if_pos (by omega), if_pos (by omega), rd_eq cs i hil, if_neg (by omega), w1]
end

theorem cnFew0 (cs : List Int) (hc : ∀ x ∈ cs, 1 ≤ x ∧ x ≤ 1000) (hl : cs.length ≤ 35184372088832) (m : Nat) (hm : m ≤ 2000000) (d : Nat) : ∀ v : Nat, m - v = d → v ≤ m →
    Ev (fun k => spec_cnFew.l0 k cs (m : Int) ((fewT cs v).map encS ++ List.replicate (m - v) 0) ((v + 1 : Nat) : Int)) ((fewT cs m).map encS) := by
  induction d with
  | zero =>
    intro v hd hv
    have : v = m := by omega
    subst this
    refine Ev.one fun k => ?_
    rw [spec_cnFew.l0, if_neg (by omega)]
    simp
  | succ d ih =>
    intro v hd hv
    have hlen := fewT_length cs v
    have hml : ((fewT cs v).map encS).length = v + 1 := by simp [hlen]
    have h := cnFew1 cs hc hl m hm (fewT cs v) (List.replicate (m - (v + 1)) 0) (fun i n => fewT_le cs (fun x hx => (hc x hx).1) v i n) (by omega) (by simp [hlen]; omega) ((fewT cs m).map encS) cs.length 0 none (by omega) (by omega) (fun _ h => by cases h) (by
      have e : (fewT cs v).map encS ++ encS (best (fewT cs v) (fewT cs v).length (cs.drop 0) none) :: List.replicate (m - (v + 1)) 0 = (fewT cs (v + 1)).map encS ++ List.replicate (m - (v + 1)) 0 := by
        rw [fewT, hlen]; simp
      rw [e, hlen]
      exact ih (v + 1) (by omega) (by omega))
    refine Ev.step (fun k => ?_) h
    rw [spec_cnFew.l0, if_pos (by omega), if_pos (by omega), if_pos (by simp [hlen]; omega)]
    have e : ((fewT cs v).map encS ++ List.replicate (m - v) 0).set ((v + 1 : Nat) : Int).toNat (-1) = (fewT cs v).map encS ++ encS none :: List.replicate (m - (v + 1)) 0 := by
      rw [show m - v = (m - (v + 1)) + 1 by omega, List.replicate_succ, Int.toNat_natCast]
      have := set_at ((fewT cs v).map encS) 0 (-1) (List.replicate (m - (v + 1)) 0)
      rw [hml] at this; exact this
    rw [e, hlen]
    rfl
theorem few0 (cs : List Int) (hc : ∀ x ∈ cs, 1 ≤ x ∧ x ≤ 1000) (hl : cs.length ≤ 35184372088832) (m : Nat) (hm : m ≤ 2000000) (d : Nat) : ∀ v : Nat, m - v = d → v ≤ m →
    Ev (fun k => impl_fewStamps.l0 k cs (m : Int) ((fewT cs v).map (encP m) ++ List.replicate (m - v) 0) ((v + 1 : Nat) : Int)) ((fewT cs m).map (encP m)) := by
  induction d with
  | zero =>
    intro v hd hv
    have : v = m := by omega
    subst this
    refine Ev.one fun k => ?_
    rw [impl_fewStamps.l0, if_neg (by omega)]
    simp
  | succ d ih =>
    intro v hd hv
    have hlen := fewT_length cs v
    have hml : ((fewT cs v).map (encP m)).length = v + 1 := by simp [hlen]
    have h := few1 cs hc hl m hm (fewT cs v) (List.replicate (m - (v + 1)) 0) (fun i n => fewT_le cs (fun x hx => (hc x hx).1) v i n) (by omega) (by simp [hlen]; omega) ((fewT cs m).map (encP m)) cs.length 0 none (by omega) (by omega) (fun _ h => by cases h) (by
      have e : (fewT cs v).map (encP m) ++ encP m (best (fewT cs v) (fewT cs v).length (cs.drop 0) none) :: List.replicate (m - (v + 1)) 0 = (fewT cs (v + 1)).map (encP m) ++ List.replicate (m - (v + 1)) 0 := by
        rw [fewT, hlen]; simp
      rw [e, hlen]
      exact ih (v + 1) (by omega) (by omega))
    refine Ev.step (fun k => ?_) h
    rw [impl_fewStamps.l0, if_pos (by omega), if_pos (by omega), if_pos (by simp [hlen]; omega)]
    have e : ((fewT cs v).map (encP m) ++ List.replicate (m - v) 0).set ((v + 1 : Nat) : Int).toNat (wrap64 ((m : Int) + 1)) = (fewT cs v).map (encP m) ++ encP m none :: List.replicate (m - (v + 1)) 0 := by
      rw [show m - v = (m - (v + 1)) + 1 by omega, List.replicate_succ, Int.toNat_natCast, w64 (by omega) (by omega)]
      have := set_at ((fewT cs v).map (encP m)) 0 ((m : Int) + 1) (List.replicate (m - (v + 1)) 0)
      rw [hml] at this; exact this
    rw [e, hlen]
    rfl
theorem cnFew_ev (cs : List Int) (hc : ∀ x ∈ cs, 1 ≤ x ∧ x ≤ 1000) (hl : cs.length ≤ 35184372088832) (m : Nat) (hm : m ≤ 2000000) : Ev (fun k => spec_cnFew.f k cs (m : Int)) ((fewT cs m).map encS) := by
  unfold spec_cnFew.f
  have e : wrap64 ((m : Int) + 1) = ((m + 1 : Nat) : Int) := by rw [w64 (by omega) (by omega)]; rfl
  refine Ev.if_pos' (by omega) (Ev.if_pos' (by omega) ?_)
  rw [e, Int.toNat_natCast, List.replicate_succ]
  exact cnFew0 cs hc hl m hm m 0 (by omega) (by omega)
theorem fewStamps_ev (cs : List Int) (hc : ∀ x ∈ cs, 1 ≤ x ∧ x ≤ 1000) (hl : cs.length ≤ 35184372088832) (m : Nat) (hm : m ≤ 2000000) : Ev (fun k => impl_fewStamps.f k cs (m : Int)) ((fewT cs m).map (encP m)) := by
  unfold impl_fewStamps.f
  have e : wrap64 ((m : Int) + 1) = ((m + 1 : Nat) : Int) := by rw [w64 (by omega) (by omega)]; rfl
  refine Ev.if_pos' (by omega) (Ev.if_pos' (by omega) ?_)
  rw [e, Int.toNat_natCast, List.replicate_succ]
  exact few0 cs hc hl m hm m 0 (by omega) (by omega)
theorem tab_rd (f : Option Nat → Int) (cs : List Int) (m v : Nat) (h : v ≤ m) : rd ((fewT cs m).map f) (v : Int) = f (few cs v) := by
  rw [rd_nat, getD_map f _ none v (by rw [fewT_length]; omega), fewT_get cs m v h]

end Go.Proofs.Ytohghfeomocnlaa.Pure

/- Plain lemmas on the fewest coins: one coin more, one coin less. -/
namespace Go.Proofs.Ytohghfeomocnlaa.Pure
open Go.RowKit Go.Proofs.Ytohghfeomocnlaa.B Go.Proofs.YtohghfeomocnlaaW.PrintWords Go.Proofs.YtohghfeomocnlaaW.PrintLast

theorem best_acc (T : List (Option Nat)) (v : Nat) (cs : List Int) : ∀ a, (∃ n, best T v cs (some a) = some n ∧ n ≤ a) := by
  induction cs with
  | nil => intro a; exact ⟨a, rfl, by omega⟩
  | cons c cs ih =>
    intro a
    rw [best]
    by_cases hc : c ≤ (v : Int)
    · rw [if_pos hc]
      cases T.getD (v - c.toNat) none with
      | none => exact ih a
      | some b =>
        by_cases hb : b + 1 < a
        · obtain ⟨n, h1, h2⟩ := ih (b + 1)
          exact ⟨n, by simpa [omin, hb] using h1, by omega⟩
        · obtain ⟨n, h1, h2⟩ := ih a
          exact ⟨n, by simpa [omin, hb] using h1, h2⟩
    · rw [if_neg hc]; exact ih a
theorem best_lower (T : List (Option Nat)) (v : Nat) (cs : List Int) : ∀ acc c m, c ∈ cs → c ≤ (v : Int) → T.getD (v - c.toNat) none = some m → ∃ n, best T v cs acc = some n ∧ n ≤ m + 1 := by
  induction cs with
  | nil => intro acc c m h; simp at h
  | cons d cs ih =>
    intro acc c m hc hcv hm
    rw [best]
    rcases List.mem_cons.1 hc with rfl | h
    · rw [if_pos hcv, hm]
      have hx : ∃ x, omin acc (Option.map (· + 1) (some m)) = some x ∧ x ≤ m + 1 := by
        cases acc with
        | none => exact ⟨m + 1, rfl, by omega⟩
        | some a =>
          by_cases hb : m + 1 < a
          · exact ⟨m + 1, by simp [omin, hb], by omega⟩
          · exact ⟨a, by simp [omin, hb], by omega⟩
      obtain ⟨x, hx1, hx2⟩ := hx
      rw [hx1]
      obtain ⟨n, h1, h2⟩ := best_acc T v cs x
      exact ⟨n, h1, by omega⟩
    · exact ih _ c m h hcv hm
theorem best_from (T : List (Option Nat)) (v : Nat) (cs : List Int) : ∀ acc n, best T v cs acc = some n → acc = some n ∨ ∃ c m, c ∈ cs ∧ c ≤ (v : Int) ∧ T.getD (v - c.toNat) none = some m ∧ n = m + 1 := by
  induction cs with
  | nil => intro acc n h; exact .inl h
  | cons c cs ih =>
    intro acc n h
    rw [best] at h
    rcases ih _ n h with h1 | ⟨d, m, hd, h1, h2, h3⟩
    · by_cases hc : c ≤ (v : Int)
      · rw [if_pos hc] at h1
        cases hT : T.getD (v - c.toNat) none with
        | none => rw [hT] at h1; cases acc with
          | none => simp [omin] at h1
          | some a => exact .inl (by simpa [omin] using h1)
        | some b =>
          rw [hT] at h1
          cases acc with
          | none => exact .inr ⟨c, b, List.mem_cons_self, hc, hT, by simpa [omin] using h1.symm⟩
          | some a =>
            by_cases hb : b + 1 < a
            · exact .inr ⟨c, b, List.mem_cons_self, hc, hT, by simpa [omin, hb] using h1.symm⟩
            · exact .inl (by simpa [omin, hb] using h1)
      · rw [if_neg hc] at h1; exact .inl h1
    · exact .inr ⟨d, m, List.mem_cons_of_mem _ hd, h1, h2, h3⟩
section
variable (l : List Int) (hc : ∀ x ∈ l, 1 ≤ x ∧ x ≤ 1000)
include hc
/-- One coin more is change for what is that much more. -/
theorem few_add (c : Int) (hm : c ∈ l) (v m : Nat) (h : few l v = some m) : ∃ n, few l (v + c.toNat) = some n ∧ n ≤ m + 1 := by
  have hb := hc c hm
  obtain ⟨w, hw⟩ : ∃ w, v + c.toNat = w + 1 := ⟨v + c.toNat - 1, by omega⟩
  rw [hw, few_succ]
  refine best_lower _ _ l none c m hm (by omega) ?_
  rw [show w + 1 - c.toNat = v by omega, fewT_get l w v (by omega)]
  exact h
/-- What has change has a coin in it. -/
theorem few_sub (v n : Nat) (h : few l v = some n) (hv : 0 < v) : ∃ c m, c ∈ l ∧ c.toNat ≤ v ∧ few l (v - c.toNat) = some m ∧ n = m + 1 := by
  obtain ⟨w, rfl⟩ : ∃ w, v = w + 1 := ⟨v - 1, by omega⟩
  rw [few_succ] at h
  rcases best_from _ _ l none n h with h1 | ⟨c, m, h1, h2, h3, h4⟩
  · cases h1
  · have hb := hc c h1
    rw [fewT_get l w _ (by omega)] at h3
    exact ⟨c, m, h1, by omega, h3, h4⟩
end

end Go.Proofs.Ytohghfeomocnlaa.Pure

/- Plain lemmas: the fewest coins for perhaps no kinds at all. -/
namespace Go.Proofs.Ytohghfeomocnlaa.Pure
open Go.RowKit Go.Proofs.Ytohghfeomocnlaa.B Go.Proofs.YtohghfeomocnlaaW.PrintWords Go.Proofs.YtohghfeomocnlaaW.PrintLast

theorem fewer_loop (m : Nat) (hm : m ≤ 2000000) (d : Nat) : ∀ v : Nat, m - v = d → v ≤ m →
    Ev (fun k => spec_cnFewer.l0 k (m : Int) ((fewT [] v).map encS ++ List.replicate (m - v) 0) ((v + 1 : Nat) : Int)) ((fewT [] m).map encS) := by
  induction d with
  | zero =>
    intro v hd hv
    have : v = m := by omega
    subst this
    refine Ev.one fun k => ?_
    rw [spec_cnFewer.l0, if_neg (by omega)]
    simp
  | succ d ih =>
    intro v hd hv
    have hlen := fewT_length [] v
    have hml : ((fewT [] v).map encS).length = v + 1 := by simp [hlen]
    have h := ih (v + 1) (by omega) (by omega)
    have e : ((fewT [] v).map encS ++ List.replicate (m - v) 0).set ((v + 1 : Nat) : Int).toNat (-1) = (fewT [] (v + 1)).map encS ++ List.replicate (m - (v + 1)) 0 := by
      rw [show m - v = (m - (v + 1)) + 1 by omega, List.replicate_succ, Int.toNat_natCast]
      have h1 := set_at ((fewT [] v).map encS) 0 (-1) (List.replicate (m - (v + 1)) 0)
      rw [hml] at h1
      rw [h1, fewT]
      simp [best, encS]
    rw [← e] at h
    refine Ev.step (fun k => ?_) h
    rw [spec_cnFewer.l0, if_pos (by omega), if_pos (by omega), if_pos (by simp [hlen]; omega), w64 (by omega) (by omega)]
    rfl
theorem cnFewer_ev (cs : List Int) (hc : ∀ x ∈ cs, 1 ≤ x ∧ x ≤ 1000) (hl : cs.length ≤ 35184372088832) (m : Nat) (hm : m ≤ 2000000) : Ev (fun k => spec_cnFewer.f k cs (m : Int)) ((fewT cs m).map encS) := by
  unfold spec_cnFewer.f
  cases cs with
  | nil =>
    have e : wrap64 ((m : Int) + 1) = ((m + 1 : Nat) : Int) := by rw [w64 (by omega) (by omega)]; rfl
    refine Ev.if_neg' (by simp) (Ev.if_pos' (by omega) (Ev.if_pos' (by omega) ?_))
    rw [e, Int.toNat_natCast, List.replicate_succ]
    exact fewer_loop m hm m 0 (by omega) (by omega)
  | cons c t => exact Ev.if_pos' (by simp only [List.length_cons]; omega) (Ev.bind (cnFew_ev (c :: t) hc hl m hm) (Ev.now _))

end Go.Proofs.Ytohghfeomocnlaa.Pure

/- Plain lemmas: a list that is marked with 1, 2, .. holds just these marks. -/
namespace Go.Proofs.Ytohghfeomocnlaa.Pure
open Go.RowKit Go.Proofs.Ytohghfeomocnlaa.B Go.Proofs.YtohghfeomocnlaaW.PrintWords Go.Proofs.YtohghfeomocnlaaW.PrintLast

/-- s, s + 1, .., n numbers. -/
def upfrom (s : Int) : Nat → List Int
  | 0 => []
  | n + 1 => s :: upfrom (s + 1) n
theorem upfrom_length (n : Nat) : ∀ s, (upfrom s n).length = n := by
  induction n with
  | zero => intro s; rfl
  | succ n ih => intro s; simp [upfrom, ih]
theorem upfrom_get (n : Nat) : ∀ (s : Int) (i : Nat), i < n → (upfrom s n).getD i 0 = s + i := by
  induction n with
  | zero => intro s i h; omega
  | succ n ih =>
    intro s i h
    cases i with
    | zero => simp [upfrom]
    | succ i =>
      have := ih (s + 1) i (by omega)
      simp only [upfrom, List.getD_cons_succ, this]
      omega
theorem mark_loop (n : Nat) : ∀ (A B : List Int) (s : Int), B.length = n → A.length + n ≤ 35184372088832 → 0 ≤ s → s + n ≤ 70368744177664 →
    Ev (fun k => laws_markIntS.l0 k (A ++ B) s (A.length : Int)) (s + n, A ++ upfrom s n) := by
  induction n with
  | zero =>
    intro A B s hB hn h0 h1
    obtain rfl := List.eq_nil_of_length_eq_zero hB
    refine Ev.one fun k => ?_
    rw [laws_markIntS.l0, if_neg (by simp)]
    simp [upfrom]
  | succ n ih =>
    intro A B s hB hn h0 h1
    cases B with
    | nil => simp at hB
    | cons b B =>
      have h := ih (A ++ [s]) B (s + 1) (by simpa using hB) (by simp; omega) (by omega) (by omega)
      refine Ev.step (f := fun k => laws_markIntS.l0 k ((A ++ [s]) ++ B) (s + 1) ((A ++ [s]).length : Int)) (fun k => ?_) ?_
      · rw [laws_markIntS.l0, if_pos (by simp; omega), if_pos (by omega), w64 (by omega) (by omega), w64 (by omega) (by omega)]
        simp
      · have e : s + 1 + (n : Int) = s + ((n + 1 : Nat) : Int) := by omega
        rw [e] at h
        simpa [upfrom] using h
theorem held_loop (n : Nat) (L : List Int) (d : Nat) : ∀ (i : Nat) (s : Int), n - i = d → i ≤ n → L.length = n → n ≤ 35184372088832 → 0 ≤ s → s + d ≤ 70368744177664 → (∀ j, i ≤ j → j < n → L.getD j 0 = s + ((j - i : Nat) : Int)) →
    Ev (fun k => laws_heldIntS.l0 k L s (i : Int)) (s + d) := by
  induction d with
  | zero =>
    intro i s hd hi hL hn h0 h1 hv
    refine Ev.one fun k => ?_
    rw [laws_heldIntS.l0, if_neg (by omega)]
    simp
  | succ d ih =>
    intro i s hd hi hL hn h0 h1 hv
    have h := ih (i + 1) (s + 1) (by omega) (by omega) hL hn (by omega) (by omega) (fun j hj hj' => by rw [hv j (by omega) hj']; omega)
    have e : s + 1 + (d : Int) = s + ((d + 1 : Nat) : Int) := by omega
    rw [e] at h
    refine Ev.step (fun k => ?_) h
    have hg := hv i (by omega) (by omega)
    rw [laws_heldIntS.l0, if_pos (by omega), if_pos (by omega), rd_nat, hg, if_pos (by omega), w64 (by omega) (by omega), w64 (by omega) (by omega)]
    rfl
theorem mark_ev (l : List Int) (hl : l.length ≤ 35184372088831) : Ev (fun k => laws_markIntS.f k l 1) (1 + (l.length : Int), upfrom 1 l.length) := by
  unfold laws_markIntS.f
  simpa using mark_loop l.length [] l 1 rfl (by simp; omega) (by omega) (by omega)
theorem held_ev (n : Nat) (hn : n ≤ 35184372088831) : Ev (fun k => laws_heldIntS.f k (upfrom 1 n) 1) (1 + (n : Int)) := by
  unfold laws_heldIntS.f
  exact held_loop n (upfrom 1 n) n 0 1 (by omega) (by omega) (upfrom_length n 1) (by omega) (by omega) (by omega) (fun j _ hj => by rw [upfrom_get n 1 j hj]; simp)

end Go.Proofs.Ytohghfeomocnlaa.Pure

/- Plain lemmas: the fewest coins hold some number of the first kind, and the fewest of the later kinds for what is left. -/
namespace Go.Proofs.Ytohghfeomocnlaa.Pure
open Go.RowKit Go.Proofs.Ytohghfeomocnlaa.B Go.Proofs.YtohghfeomocnlaaW.PrintWords Go.Proofs.YtohghfeomocnlaaW.PrintLast

theorem least_ex (P : Nat → Prop) : ∀ n, P n → ∃ k, k ≤ n ∧ P k ∧ ∀ j, j < k → ¬ P j := by
  intro n
  induction n using Nat.strongRecOn with
  | ind n ih =>
    intro h
    by_cases hl : ∃ j, j < n ∧ P j
    · obtain ⟨j, h1, h2⟩ := hl
      obtain ⟨k, h3, h4, h5⟩ := ih j h1 h2
      exact ⟨k, by omega, h4, h5⟩
    · exact ⟨n, by omega, h, fun j hj hp => hl ⟨j, hj, hp⟩⟩
section
variable (c : Int) (t : List Int) (hc : ∀ x ∈ c :: t, 1 ≤ x ∧ x ≤ 1000)
include hc
theorem few_mono (v : Nat) : ∀ q, few t v = some q → ∃ p, few (c :: t) v = some p ∧ p ≤ q := by
  have ht : ∀ x ∈ t, 1 ≤ x ∧ x ≤ 1000 := fun x hx => hc x (List.mem_cons_of_mem _ hx)
  induction v using Nat.strongRecOn with
  | ind v ih =>
    intro q h
    by_cases hv : v = 0
    · subst hv
      exact ⟨0, few_zero _, by omega⟩
    · obtain ⟨d, m, h1, h2, h3, h4⟩ := few_sub t ht v q h (by omega)
      have hd := ht d h1
      obtain ⟨p, h5, h6⟩ := ih (v - d.toNat) (by omega) m h3
      obtain ⟨n, h7, h8⟩ := few_add (c :: t) hc d (List.mem_cons_of_mem _ h1) _ p h5
      rw [show v - d.toNat + d.toNat = v by omega] at h7
      exact ⟨n, h7, by omega⟩
theorem few_times (v m : Nat) (h : few (c :: t) v = some m) (n : Nat) : ∃ p, few (c :: t) (v + n * c.toNat) = some p ∧ p ≤ m + n := by
  induction n with
  | zero => exact ⟨m, by simpa using h, by omega⟩
  | succ n ih =>
    obtain ⟨p, h1, h2⟩ := ih
    obtain ⟨q, h3, h4⟩ := few_add (c :: t) hc c List.mem_cons_self _ p h1
    refine ⟨q, ?_, by omega⟩
    rw [Nat.add_mul, Nat.one_mul, ← Nat.add_assoc]
    exact h3
theorem few_split (v : Nat) : ∀ N, few (c :: t) v = some N → ∃ n, n ≤ N ∧ n * c.toNat ≤ v ∧ few t (v - n * c.toNat) = some (N - n) := by
  have ht : ∀ x ∈ t, 1 ≤ x ∧ x ≤ 1000 := fun x hx => hc x (List.mem_cons_of_mem _ hx)
  have hc0 := hc c List.mem_cons_self
  induction v using Nat.strongRecOn with
  | ind v ih =>
    intro N h
    by_cases hv : v = 0
    · subst hv
      rw [few_zero] at h; cases h
      exact ⟨0, by omega, by omega, by simpa using few_zero t⟩
    · obtain ⟨d, m, h1, h2, h3, h4⟩ := few_sub (c :: t) hc v N h (by omega)
      have hd := hc d h1
      obtain ⟨n, h5, h6, h7⟩ := ih (v - d.toNat) (by omega) m h3
      rcases List.mem_cons.1 h1 with rfl | h1'
      · refine ⟨n + 1, by omega, by rw [Nat.add_mul]; omega, ?_⟩
        rw [Nat.add_mul, Nat.one_mul, show v - (n * d.toNat + d.toNat) = v - d.toNat - n * d.toNat by omega, h7]
        congr 1; omega
      · obtain ⟨q, h8, h9⟩ := few_add t ht d h1' _ _ h7
        rw [show v - d.toNat - n * c.toNat + d.toNat = v - n * c.toNat by omega] at h8
        obtain ⟨p, h10, h11⟩ := few_mono c t hc _ q h8
        obtain ⟨r, h12, h13⟩ := few_times c t hc _ p h10 n
        rw [show v - n * c.toNat + n * c.toNat = v by omega, h] at h12
        cases h12
        exact ⟨n, by omega, by omega, by rw [h8]; congr 1; omega⟩
/-- The least number of the first kind with which the later kinds come out as few. -/
theorem few_first (v N : Nat) (h : few (c :: t) v = some N) : ∃ n, n ≤ N ∧ n * c.toNat ≤ v ∧ few t (v - n * c.toNat) = some (N - n) ∧ ∀ j, j < n → few t (v - j * c.toNat) ≠ some (N - j) := by
  obtain ⟨n, h1, h2, h3⟩ := few_split c t hc v N h
  obtain ⟨k, h4, h5, h6⟩ := least_ex (fun n => few t (v - n * c.toNat) = some (N - n)) n h3
  have := Nat.mul_le_mul_right c.toNat h4
  exact ⟨k, by omega, by omega, h5, h6⟩
end

end Go.Proofs.Ytohghfeomocnlaa.Pure

/- Plain lemmas: change by a purse; the kinds may be taken in any order. -/
namespace Go.Proofs.Ytohghfeomocnlaa.Pure
open Go.RowKit Go.Proofs.Ytohghfeomocnlaa.B Go.Proofs.YtohghfeomocnlaaW.PrintWords Go.Proofs.YtohghfeomocnlaaW.PrintLast

/-- The least number of coins c, of p at most, that leave an amount with S. -/
def lst (c : Nat) (S : Nat → Bool) : Nat → Nat → Option Nat
  | 0, a => if S a = true then some 0 else none
  | p + 1, a => if S a = true then some 0 else if c ≤ a then (lst c S p (a - c)).map (· + 1) else none
theorem lst_le (c : Nat) (S : Nat → Bool) (p : Nat) : ∀ a n, lst c S p a = some n → n ≤ p := by
  induction p with
  | zero => intro a n h; unfold lst at h; split at h <;> cases h; omega
  | succ p ih =>
    intro a n h
    unfold lst at h
    split at h
    · cases h; omega
    · split at h
      · cases hl : lst c S p (a - c) with
        | none => rw [hl] at h; cases h
        | some m => rw [hl] at h; have := ih _ _ hl; simp only [Option.map_some, Option.some.injEq] at h; omega
      · cases h
theorem lst_zero (c : Nat) (S : Nat → Bool) (p a : Nat) (h : S a = true) : lst c S p a = some 0 := by
  cases p <;> simp [lst, h]
theorem lst_low (c : Nat) (S : Nat → Bool) (p : Nat) : ∀ a, lst c S p a = match lst c S (p + 1) a with
    | some n => if n ≤ p then some n else none
    | none => none := by
  induction p with
  | zero =>
    intro a
    rw [lst, lst]
    by_cases h : S a = true
    · simp [h]
    · rw [if_neg h, if_neg h]
      by_cases hc : c ≤ a
      · rw [if_pos hc]
        cases lst c S 0 (a - c) <;> simp
      · rw [if_neg hc]
  | succ p ih =>
    intro a
    rw [lst]
    conv => rhs; rw [lst]
    by_cases h : S a = true
    · simp [h]
    · rw [if_neg h, if_neg h]
      by_cases hc : c ≤ a
      · rw [if_pos hc, if_pos hc, ih (a - c)]
        cases lst c S (p + 1) (a - c) with
        | none => rfl
        | some n =>
          by_cases hn : n ≤ p
          · simp [hn]
          · simp [hn]
      · rw [if_neg hc, if_neg hc]
/-- As the tables hold it: by the number for the amount without one coin. -/
theorem lst_step (c : Nat) (S : Nat → Bool) (p a : Nat) (h : S a = false) : lst c S p a = if c ≤ a then (match lst c S p (a - c) with
    | some n => if n < p then some (n + 1) else none
    | none => none) else none := by
  cases p with
  | zero =>
    simp only [lst, h]
    by_cases hc : c ≤ a
    · rw [if_pos hc]
      cases S (a - c) <;> simp
    · rw [if_neg hc]; simp
  | succ p =>
    conv => lhs; rw [lst]
    rw [h, if_neg (by simp)]
    by_cases hc : c ≤ a
    · rw [if_pos hc, if_pos hc, lst_low c S p (a - c)]
      cases lst c S (p + 1) (a - c) with
      | none => rfl
      | some n =>
        by_cases hn : n ≤ p
        · simp [hn]; omega
        · simp [hn]; omega
    · rw [if_neg hc, if_neg hc]
theorem lst_iff (c : Nat) (S : Nat → Bool) (p : Nat) : ∀ a, (lst c S p a).isSome = true ↔ ∃ n, n ≤ p ∧ n * c ≤ a ∧ S (a - n * c) = true := by
  induction p with
  | zero =>
    intro a
    rw [lst]
    by_cases h : S a = true
    · rw [if_pos h]; exact ⟨fun _ => ⟨0, by omega, by omega, by simpa using h⟩, fun _ => rfl⟩
    · rw [if_neg h]
      refine ⟨fun h => (by cases h), fun ⟨n, h1, h2, h3⟩ => ?_⟩
      have : n = 0 := by omega
      subst this
      exact absurd (by simpa using h3) h
  | succ p ih =>
    intro a
    rw [lst]
    by_cases h : S a = true
    · rw [if_pos h]; exact ⟨fun _ => ⟨0, by omega, by omega, by simpa using h⟩, fun _ => rfl⟩
    · rw [if_neg h]
      by_cases hc : c ≤ a
      · rw [if_pos hc, Option.isSome_map, ih]
        constructor
        · intro ⟨n, h1, h2, h3⟩
          exact ⟨n + 1, by omega, by rw [Nat.add_mul]; omega, by rw [Nat.add_mul, Nat.one_mul, show a - (n * c + c) = a - c - n * c by omega]; exact h3⟩
        · intro ⟨n, h1, h2, h3⟩
          cases n with
          | zero => exact absurd (by simpa using h3) h
          | succ n =>
            rw [Nat.add_mul, Nat.one_mul] at h2 h3
            exact ⟨n, by omega, by omega, by rw [show a - c - n * c = a - (n * c + c) by omega]; exact h3⟩
      · rw [if_neg hc]
        refine ⟨fun h => (by cases h), fun ⟨n, h1, h2, h3⟩ => ?_⟩
        cases n with
        | zero => exact absurd (by simpa using h3) h
        | succ n => rw [Nat.add_mul] at h2; omega
/-- The least n is the first that the amounts tell. -/
theorem lst_first (c : Nat) (S : Nat → Bool) (p : Nat) : ∀ a n, lst c S p a = some n → n * c ≤ a ∧ S (a - n * c) = true ∧ ∀ j, j < n → S (a - j * c) = false := by
  induction p with
  | zero =>
    intro a n h
    rw [lst] at h
    by_cases hs : S a = true
    · rw [if_pos hs] at h; cases h; exact ⟨by omega, by simpa using hs, fun j hj => by omega⟩
    · rw [if_neg hs] at h; cases h
  | succ p ih =>
    intro a n h
    rw [lst] at h
    by_cases hs : S a = true
    · rw [if_pos hs] at h; cases h; exact ⟨by omega, by simpa using hs, fun j hj => by omega⟩
    · rw [if_neg hs] at h
      by_cases hc : c ≤ a
      · rw [if_pos hc] at h
        cases hl : lst c S p (a - c) with
        | none => rw [hl] at h; cases h
        | some m =>
          rw [hl] at h; simp only [Option.map_some, Option.some.injEq] at h; subst h
          obtain ⟨h1, h2, h3⟩ := ih _ _ hl
          refine ⟨by rw [Nat.add_mul]; omega, by rw [Nat.add_mul, Nat.one_mul, show a - (m * c + c) = a - c - m * c by omega]; exact h2, fun j hj => ?_⟩
          cases j with
          | zero => simpa using hs
          | succ j =>
            rw [Nat.add_mul, Nat.one_mul, show a - (j * c + c) = a - c - j * c by omega]
            exact h3 j (by omega)
      · rw [if_neg hc] at h; cases h
def stepB (c p : Nat) (S : Nat → Bool) (a : Nat) : Bool := (lst c S p a).isSome
theorem step_comm1 (c p d q : Nat) (S : Nat → Bool) (a : Nat) (h : stepB c p (stepB d q S) a = true) : stepB d q (stepB c p S) a = true := by
  obtain ⟨n, h1, h2, h3⟩ := (lst_iff _ _ _ _).1 h
  obtain ⟨m, h4, h5, h6⟩ := (lst_iff _ _ _ _).1 h3
  refine (lst_iff _ _ _ _).2 ⟨m, h4, by omega, (lst_iff _ _ _ _).2 ⟨n, h1, by omega, ?_⟩⟩
  rw [show a - m * d - n * c = a - n * c - m * d by omega]
  exact h6
theorem step_comm (c p d q : Nat) (S : Nat → Bool) : stepB c p (stepB d q S) = stepB d q (stepB c p S) := by
  funext a
  exact Bool.eq_iff_iff.2 ⟨step_comm1 _ _ _ _ _ _, step_comm1 _ _ _ _ _ _⟩
/-- The amounts that coins and a purse pay, on top of those with S. -/
def pays (S : Nat → Bool) : List Int → List Int → Nat → Bool
  | c :: cs, p :: ps => stepB c.toNat p.toNat (pays S cs ps)
  | _, _ => S
def isZero (a : Nat) : Bool := decide (a = 0)
theorem pays_step (c p : Nat) (cs : List Int) : ∀ (S : Nat → Bool) (ps : List Int), pays (stepB c p S) cs ps = stepB c p (pays S cs ps) := by
  induction cs with
  | nil => intro S ps; cases ps <;> rfl
  | cons d cs ih =>
    intro S ps
    cases ps with
    | nil => rfl
    | cons q ps => rw [pays, pays, ih, step_comm]
/-- The table of a function up to m. -/
def tabF {α : Type} (f : Nat → α) (m : Nat) : List α := (List.range (m + 1)).map f
theorem tabF_length {α : Type} (f : Nat → α) (m : Nat) : (tabF f m).length = m + 1 := by simp [tabF]
theorem tabF_get {α : Type} (f : Nat → α) (m i : Nat) (d : α) (h : i ≤ m) : (tabF f m).getD i d = f i := by
  simp [tabF, List.getD, List.getElem?_range (show i < m + 1 by omega)]
theorem rangeMap_succ {α : Type} (f : Nat → α) (n : Nat) : (List.range (n + 1)).map f = (List.range n).map f ++ [f n] := by
  rw [List.range_succ, List.map_append]; rfl

end Go.Proofs.Ytohghfeomocnlaa.Pure
