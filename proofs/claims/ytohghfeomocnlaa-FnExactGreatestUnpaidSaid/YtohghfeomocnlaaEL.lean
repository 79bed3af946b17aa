/- Plain lemmas of several texts in one: Base, Coin0, Tab0, Few0, FewS, FewAdd, Unpaid0, Gcd0, Max0, Resid0, Unpaid1. -/
import Derived.Test.YtohghfeomocnlaaWWords
import Derived.Test.YtohghfeomocnlaaWMore
import Derived.Test.YtohghfeomocnlaaEx1
import Derived.Test.YtohghfeomocnlaaEx5
import Derived.Test.YtohghfeomocnlaaEx2
import Derived.Test.YtohghfeomocnlaaEx6
import Derived.Test.YtohghfeomocnlaaEx3
import Derived.Test.YtohghfeomocnlaaEx7
import Derived.Test.YtohghfeomocnlaaEx4
/- Plain lemmas on the laws' own helpers: copying a list, comparing two lists. -/
namespace Go.Proofs.Ytohghfeomocnlaa.Pure
open Go.RowKit Go.Proofs.Ytohghfeomocnlaa.E Go.Proofs.YtohghfeomocnlaaW.PrintWords Go.Proofs.YtohghfeomocnlaaW.PrintLast

theorem Ev.eq {α : Type} {g f : Nat → Option α} {r : α} (h : ∀ k, g (k + 1) = f k) (k : Ev f r) : Ev g r := Ev.step h k
theorem Ev.pure' {α : Type} {g : Nat → Option α} {r : α} (h : ∀ k, g k = some r) : Ev g r := ⟨0, fun k _ => h k⟩
theorem Ev.one {α : Type} {g : Nat → Option α} {r : α} (h : ∀ k, g (k + 1) = some r) : Ev g r := Ev.step (f := fun _ => some r) h (Ev.now r)
theorem Ev.some_bind {α β : Type} {f : Nat → α → Option β} {a : α} {r : β} (h : Ev (fun n => f n a) r) : Ev (fun n => (some a).bind (f n)) r := h
theorem Ev.if_pos' {α : Type} {c : Prop} [Decidable c] {g f : Nat → Option α} {r : α} (hc : c) (h : Ev g r) : Ev (fun n => if c then g n else f n) r := by
  simpa only [if_pos hc] using h
theorem Ev.if_neg' {α : Type} {c : Prop} [Decidable c] {g f : Nat → Option α} {r : α} (hc : ¬ c) (h : Ev f r) : Ev (fun n => if c then g n else f n) r := by
  simpa only [if_neg hc] using h
theorem Ev.const_bind {α β : Type} {g : Option α} {f : Nat → α → Option β} {a : α} {r : β} (h : g = some a) (k : Ev (fun n => f n a) r) : Ev (fun n => g.bind (f n)) r := by
  simpa only [h, Option.bind_some] using k
/-- More rounds may be taken. -/
theorem Ev.le {α : Type} {g f : Nat → Option α} {r : α} (h : Ev g r) (hle : ∀ k, LeO (g k) (f k)) : Ev f r := by
  obtain ⟨K, hK⟩ := h
  exact ⟨K, fun k hk => hle k _ (hK k hk)⟩

theorem w64 {x : Int} (h0 : -9223372036854775808 ≤ x) (h1 : x ≤ 9223372036854775807) : wrap64 x = x := by unfold wrap64; omega
theorem rd_eq (l : List Int) (i : Nat) (h : i < l.length) : rd l (i : Int) = l[i] := by simp [rd, h]
theorem rd_nat (l : List Int) (i : Nat) : rd l (i : Int) = l.getD i 0 := rfl

theorem l1In_eq (a b c : Int) : spec_l1In.f a b c = some (decide (b ≤ a ∧ a ≤ c)) := by
  unfold spec_l1In.f
  by_cases h : a ≥ b <;> simp [h, ge_iff_le] <;> omega
theorem within_eq (a b c : Int) : impl_within.f a b c = some (decide (b ≤ a ∧ a ≤ c)) := by
  unfold impl_within.f
  by_cases h : b ≤ a <;> simp [h]

theorem set_split (l : List Int) (i : Nat) (h : i < l.length) (v : Int) : l.set i v = l.take i ++ v :: l.drop (i + 1) := by
  rw [List.set_eq_take_append_cons_drop, if_pos h]

theorem toIntS_loop (l : List Int) (hl : l.length ≤ 35184372088832) (d : Nat) : ∀ (i : Nat) (acc : List Int), acc.length = l.length → l.length - i = d → i ≤ l.length → acc.take i = l.take i →
    Ev (fun k => laws_toIntS.l0 k l acc (i : Int)) l := by
  induction d with
  | zero =>
    intro i acc ha hd hi he
    have hil : i = l.length := by omega
    refine Ev.one fun k => ?_
    rw [laws_toIntS.l0, if_neg (by omega)]
    have := he; rw [hil] at this
    rw [List.take_length, ← ha, List.take_length] at this
    rw [this]
  | succ d ih =>
    intro i acc ha hd hi he
    refine Ev.step (f := fun k => laws_toIntS.l0 k l (acc.set i l[i]!) ((i + 1 : Nat) : Int)) (fun k => ?_) (ih (i + 1) _ (by simpa using ha) (by omega) (by omega) ?_)
    · rw [laws_toIntS.l0, if_pos (by omega), if_pos (by omega), if_pos (by omega), w64 (by omega) (by omega)]
      have : rd l (i : Int) = l[i]! := by rw [rd_eq l i (by omega), getElem!_pos l i (by omega)]
      rw [this]
      rfl
    · rw [getElem!_pos l i (by omega), List.take_succ_eq_append_getElem (by simp; omega), List.take_succ_eq_append_getElem (l := l) (by omega), List.take_set_of_le (by omega), he]
      simp
theorem toIntS_ev (l : List Int) (hl : l.length ≤ 35184372088832) : Ev (fun k => laws_toIntS.f k l) l := by
  unfold laws_toIntS.f
  refine Ev.if_pos' (by omega) (Ev.if_pos' (by omega) ?_)
  exact toIntS_loop l hl l.length 0 _ (by simp) (by omega) (by omega) (by simp)

theorem eqIntS_loop (a b : List Int) (hab : a.length = b.length) (hl : a.length ≤ 35184372088832) (d : Nat) : ∀ (i : Nat), a.length - i = d → i ≤ a.length →
    Ev (fun k => laws_eqIntS.l0 k a b (i : Int)) (decide (a.drop i = b.drop i)) := by
  induction d with
  | zero =>
    intro i hd hi
    refine Ev.one fun k => ?_
    rw [laws_eqIntS.l0, if_neg (by omega), List.drop_of_length_le (by omega), List.drop_of_length_le (by omega)]
    simp
  | succ d ih =>
    intro i hd hi
    have hi' : i < a.length := by omega
    have h := ih (i + 1) (by omega) (by omega)
    have hib : i < b.length := by omega
    rw [List.drop_eq_getElem_cons hi', List.drop_eq_getElem_cons hib]
    by_cases he : a[i] = b[i]
    · refine Ev.step (f := fun k => laws_eqIntS.l0 k a b ((i + 1 : Nat) : Int)) (fun k => ?_) (by simp only [he, List.cons.injEq, true_and]; exact h)
      rw [laws_eqIntS.l0, if_pos (by omega), if_pos (by omega), if_pos (by omega), if_pos (by rw [rd_eq a i hi', rd_eq b i hib, he]), w64 (by omega) (by omega)]
      rfl
    · refine Ev.one fun k => ?_
      rw [laws_eqIntS.l0, if_pos (by omega), if_pos (by omega), if_pos (by omega), if_neg (by rw [rd_eq a i hi', rd_eq b i hib]; exact he)]
      rw [decide_eq_false (fun e => he (List.cons.inj e).1)]
theorem eqIntS_ev (a b : List Int) (hl : a.length ≤ 35184372088832) : Ev (fun k => laws_eqIntS.f k a b) (decide (a = b)) := by
  unfold laws_eqIntS.f
  by_cases h : a.length = b.length
  · refine Ev.if_pos' (by omega) ?_
    simpa using eqIntS_loop a b h hl a.length 0 (by omega) (by omega)
  · refine Ev.if_neg' (by omega) ?_
    rw [decide_eq_false (fun e => h (by rw [e]))]
    exact Ev.now _
theorem eqIntS_self (a : List Int) (hl : a.length ≤ 35184372088832) : Ev (fun k => laws_eqIntS.f k a a) true := by
  simpa using eqIntS_ev a a hl

end Go.Proofs.Ytohghfeomocnlaa.Pure

/- Plain lemmas: which lists are coins, by the program and by the reference. -/
namespace Go.Proofs.Ytohghfeomocnlaa.Pure
open Go.RowKit Go.Proofs.Ytohghfeomocnlaa.E Go.Proofs.YtohghfeomocnlaaW.PrintWords Go.Proofs.YtohghfeomocnlaaW.PrintLast

def risesB : List Int → Bool
  | a :: b :: t => decide (a < b) && risesB (b :: t)
  | _ => true
def inB (lo hi : Int) (l : List Int) : Bool := l.all fun x => decide (lo ≤ x) && decide (x ≤ hi)

theorem drop_two (l : List Int) (i : Nat) (h1 : 1 ≤ i) (h : i < l.length) : l.drop (i - 1) = l[i - 1] :: l[i] :: l.drop (i + 1) := by
  rw [List.drop_eq_getElem_cons (by omega : i - 1 < l.length), show i - 1 + 1 = i by omega, List.drop_eq_getElem_cons h]
theorem rises_short (l : List Int) (i : Nat) (h : l.length ≤ i) : risesB (l.drop (i - 1)) = true := by
  have hs : (l.drop (i - 1)).length ≤ 1 := by rw [List.length_drop]; omega
  match l.drop (i - 1), hs with
  | [], _ => rfl
  | [a], _ => rfl

theorem inB_cons (lo hi a : Int) (t : List Int) : inB lo hi (a :: t) = (decide (lo ≤ a ∧ a ≤ hi) && inB lo hi t) := by simp [inB]
theorem rises_loop (l : List Int) (hl : l.length ≤ 35184372088832) (d : Nat) : ∀ (i : Nat), 1 ≤ i → l.length - i = d → i ≤ 35184372088833 →
    Ev (fun k => impl_rises.l0 k l (i : Int)) (risesB (l.drop (i - 1))) := by
  induction d with
  | zero =>
    intro i h1 hd hi
    rw [rises_short l i (by omega)]
    exact Ev.one fun k => by rw [impl_rises.l0, if_neg (by omega)]
  | succ d ih =>
    intro i h1 hd hi
    have hil : i < l.length := by omega
    have e1 : wrap64 ((i : Int) - 1) = ((i - 1 : Nat) : Int) := by rw [w64 (by omega) (by omega)]; omega
    rw [drop_two l i h1 hil, risesB]
    by_cases hc : l[i - 1] < l[i]
    · have h := ih (i + 1) (by omega) (by omega) (by omega)
      rw [show i + 1 - 1 = i by omega, List.drop_eq_getElem_cons hil] at h
      rw [decide_eq_true hc, Bool.true_and]
      refine Ev.step (f := fun k => impl_rises.l0 k l ((i + 1 : Nat) : Int)) (fun k => ?_) h
      rw [impl_rises.l0, if_pos (by omega), e1, if_pos (by omega), if_pos (by omega), if_pos (by omega), rd_eq l i hil, rd_eq l (i - 1) (by omega), if_neg (by omega), w64 (by omega) (by omega)]
      rfl
    · rw [decide_eq_false hc, Bool.false_and]
      refine Ev.one fun k => ?_
      rw [impl_rises.l0, if_pos (by omega), e1, if_pos (by omega), if_pos (by omega), if_pos (by omega), rd_eq l i hil, rd_eq l (i - 1) (by omega), if_pos (by omega)]
theorem rises_ev (l : List Int) (hl : l.length ≤ 35184372088832) : Ev (fun k => impl_rises.f k l) (risesB l) := by
  unfold impl_rises.f
  exact rises_loop l hl (l.length - 1) 1 (by omega) rfl (by omega)

theorem l1Rising_loop (l : List Int) (lo hi : Int) (hl : l.length ≤ 35184372088832) (d : Nat) : ∀ (i : Nat), 1 ≤ i → l.length - i = d → i ≤ 35184372088833 →
    Ev (fun k => spec_l1Rising.l0 k l lo hi l (l.length : Int) (i : Int)) (inB lo hi (l.drop i) && risesB (l.drop (i - 1))) := by
  induction d with
  | zero =>
    intro i h1 hd hi
    rw [rises_short l i (by omega), List.drop_of_length_le (by omega)]
    exact Ev.one fun k => by rw [spec_l1Rising.l0, if_neg (by omega)]; rfl
  | succ d ih =>
    intro i h1 hd hi'
    have hil : i < l.length := by omega
    have e1 : wrap64 ((i : Int) - 1) = ((i - 1 : Nat) : Int) := by rw [w64 (by omega) (by omega)]; omega
    rw [drop_two l i h1 hil, risesB, List.drop_eq_getElem_cons hil]
    rw [inB_cons]
    by_cases hb : lo ≤ l[i] ∧ l[i] ≤ hi
    · rw [decide_eq_true hb, Bool.true_and]
      by_cases hc : l[i - 1] < l[i]
      · have h := ih (i + 1) (by omega) (by omega) (by omega)
        rw [show i + 1 - 1 = i by omega, List.drop_eq_getElem_cons hil] at h
        rw [decide_eq_true hc, Bool.true_and]
        refine Ev.step (f := fun k => spec_l1Rising.l0 k l lo hi l (l.length : Int) ((i + 1 : Nat) : Int)) (fun k => ?_) h
        rw [spec_l1Rising.l0, if_pos (by omega), if_pos (by omega), if_pos (by omega), rd_eq l i hil, l1In_eq, decide_eq_true hb, Option.bind_some, if_pos rfl, if_pos (by omega), e1, if_pos (by omega), if_pos (by omega), rd_eq l (i - 1) (by omega), if_neg (by omega), w64 (by omega) (by omega)]
        rfl
      · rw [decide_eq_false hc, Bool.false_and, Bool.and_false]
        refine Ev.one fun k => ?_
        rw [spec_l1Rising.l0, if_pos (by omega), if_pos (by omega), if_pos (by omega), rd_eq l i hil, l1In_eq, decide_eq_true hb, Option.bind_some, if_pos rfl, if_pos (by omega), e1, if_pos (by omega), if_pos (by omega), rd_eq l (i - 1) (by omega), if_pos (by omega)]
    · rw [decide_eq_false hb, Bool.false_and, Bool.false_and]
      refine Ev.one fun k => ?_
      rw [spec_l1Rising.l0, if_pos (by omega), if_pos (by omega), if_pos (by omega), rd_eq l i hil, l1In_eq, decide_eq_false hb, Option.bind_some, if_neg (by simp)]
theorem l1Rising_ev (l : List Int) (lo hi : Int) (hl : l.length ≤ 35184372088832) : Ev (fun k => spec_l1Rising.f k l lo hi) (inB lo hi l && risesB l) := by
  unfold spec_l1Rising.f
  cases l with
  | nil => exact Ev.one fun k => by rw [spec_l1Rising.l0, if_neg (by simp)]; rfl
  | cons a t =>
    have hil : 0 < (a :: t).length := by simp
    have h := l1Rising_loop (a :: t) lo hi hl ((a :: t).length - 1) 1 (by omega) rfl (by omega)
    rw [inB_cons]
    by_cases hb : lo ≤ a ∧ a ≤ hi
    · rw [decide_eq_true hb, Bool.true_and]
      refine Ev.step (f := fun k => spec_l1Rising.l0 k (a :: t) lo hi (a :: t) ((a :: t).length : Int) ((1 : Nat) : Int)) (fun k => ?_) h
      rw [spec_l1Rising.l0, if_pos (by omega), if_pos (by omega), if_pos (by omega), show rd (a :: t) 0 = a from rfl, l1In_eq, decide_eq_true hb, Option.bind_some, if_pos rfl, if_neg (by omega), w64 (by omega) (by omega)]
      rfl
    · rw [decide_eq_false hb, Bool.false_and, Bool.false_and]
      refine Ev.one fun k => ?_
      rw [spec_l1Rising.l0, if_pos (by omega), if_pos (by omega), if_pos (by omega), show rd (a :: t) 0 = a from rfl, l1In_eq, decide_eq_false hb, Option.bind_some, if_neg (by simp)]
theorem areWithin_eq (l : List Int) (lo hi : Int) (hl : l.length ≤ 35184372088832) : impl_areWithin.f l lo hi = some (inB lo hi l) := by
  unfold impl_areWithin.f
  rw [if_pos (by omega)]
  rfl
/-- What coins are. -/
def coinsB (l : List Int) : Bool := decide (1 ≤ (l.length : Int) ∧ (l.length : Int) ≤ 8) && (inB 1 1000 l && risesB l)
theorem cnGood_ev (l : List Int) (hl : l.length ≤ 35184372088832) : Ev (fun k => spec_cnGood.f k l) (coinsB l) := by
  unfold spec_cnGood.f coinsB
  refine Ev.const_bind (l1In_eq _ _ _) ?_
  by_cases h : 1 ≤ (l.length : Int) ∧ (l.length : Int) ≤ 8
  · rw [decide_eq_true h, Bool.true_and]
    exact Ev.if_pos' rfl (Ev.bind (l1Rising_ev l 1 1000 hl) (Ev.now _))
  · rw [decide_eq_false h, Bool.false_and]
    exact Ev.if_neg' (by simp) (Ev.now _)
theorem AreCoins_ev (l : List Int) (hl : l.length ≤ 35184372088832) : Ev (fun k => impl_AreCoins.f k l) (coinsB l) := by
  unfold impl_AreCoins.f coinsB
  refine Ev.const_bind (within_eq _ _ _) ?_
  by_cases h : 1 ≤ (l.length : Int) ∧ (l.length : Int) ≤ 8
  · rw [decide_eq_true h, Bool.true_and]
    refine Ev.if_pos' rfl (Ev.const_bind (areWithin_eq l 1 1000 hl) ?_)
    cases h2 : inB 1 1000 l with
    | true => exact Ev.if_pos' rfl (Ev.bind (rises_ev l hl) (Ev.now _))
    | false => exact Ev.if_neg' (by simp) (Ev.now _)
  · rw [decide_eq_false h, Bool.false_and]
    exact Ev.if_neg' (by simp) (Ev.now _)
theorem coins_len {l : List Int} (h : coinsB l = true) : 1 ≤ l.length ∧ l.length ≤ 8 := by
  simp [coinsB] at h; omega
theorem coins_mem {l : List Int} (h : coinsB l = true) : ∀ x ∈ l, 1 ≤ x ∧ x ≤ 1000 := by
  simp [coinsB, inB] at h; exact h.2.1
/-- The rest of a law without a slice among its results: the argument is as it was. -/
theorem same_end (l : List Int) (hl : l.length ≤ 35184372088832) : Ev (fun k => (laws_toIntS.f k l).bind fun t => (laws_eqIntS.f k l t).bind fun u => if u = true then some true else some false) true :=
  Ev.bind (toIntS_ev l hl) (Ev.bind (eqIntS_self l hl) (Ev.if_pos' rfl (Ev.now _)))

end Go.Proofs.Ytohghfeomocnlaa.Pure

/- Plain lemmas on tables as lists: reading, writing; a number that is there or not, as the programs write it. -/
namespace Go.Proofs.Ytohghfeomocnlaa.Pure
open Go.RowKit Go.Proofs.Ytohghfeomocnlaa.E Go.Proofs.YtohghfeomocnlaaW.PrintWords Go.Proofs.YtohghfeomocnlaaW.PrintLast

theorem getD_lt {α : Type} (A B : List α) (d : α) (i : Nat) (h : i < A.length) : (A ++ B).getD i d = A.getD i d := by simp [List.getD, List.getElem?_append_left h]
theorem getD_ge {α : Type} (A B : List α) (d : α) (i : Nat) (h : A.length ≤ i) : (A ++ B).getD i d = B.getD (i - A.length) d := by simp [List.getD, List.getElem?_append_right h]
theorem getD_out {α : Type} (A : List α) (d : α) (i : Nat) (h : A.length ≤ i) : A.getD i d = d := by simp [List.getD, List.getElem?_eq_none h]
theorem mn_lt {a b : Int} (h : b < a) : mn a b = b := if_pos h
theorem mn_ge {a b : Int} (h : a ≤ b) : mn a b = a := if_neg (by omega)
/-- How the reference writes it; how the program writes it in a table up to m. -/
def encS : Option Nat → Int
  | none => -1
  | some n => n
def encP (m : Nat) : Option Nat → Int
  | none => m + 1
  | some n => n
theorem rd_app_lt (A B : List Int) (i : Nat) (h : i < A.length) : rd (A ++ B) (i : Int) = A.getD i 0 := by
  rw [rd_nat, getD_lt _ _ _ _ h]
theorem rd_app_at (A : List Int) (x : Int) (B : List Int) : rd (A ++ x :: B) (A.length : Int) = x := by
  rw [rd_nat, getD_ge _ _ _ _ (by omega)]; simp
theorem set_at (A : List Int) (x y : Int) (B : List Int) : (A ++ x :: B).set A.length y = A ++ y :: B := by
  simp
theorem getD_map {α : Type} (f : α → Int) (A : List α) (d : α) (i : Nat) (h : i < A.length) : (A.map f).getD i 0 = f (A.getD i d) := by
  simp [List.getD, h]


end Go.Proofs.Ytohghfeomocnlaa.Pure

/- Plain lemmas: the fewest coins for each amount. -/
namespace Go.Proofs.Ytohghfeomocnlaa.Pure
open Go.RowKit Go.Proofs.Ytohghfeomocnlaa.E Go.Proofs.YtohghfeomocnlaaW.PrintWords Go.Proofs.YtohghfeomocnlaaW.PrintLast

def omin : Option Nat → Option Nat → Option Nat
  | none, b => b
  | some a, none => some a
  | some a, some b => some (if b < a then b else a)
def best (T : List (Option Nat)) (v : Nat) : List Int → Option Nat → Option Nat
  | [], acc => acc
  | c :: cs, acc => best T v cs (if c ≤ v then omin acc ((T.getD (v - c.toNat) none).map (· + 1)) else acc)
/-- The fewest coins for 0, 1, .., n. -/
def fewT (cs : List Int) : Nat → List (Option Nat)
  | 0 => [some 0]
  | n + 1 => fewT cs n ++ [best (fewT cs n) (n + 1) cs none]
def few (cs : List Int) (v : Nat) : Option Nat := (fewT cs v).getD v none
theorem fewT_length (cs : List Int) (n : Nat) : (fewT cs n).length = n + 1 := by
  induction n with
  | zero => rfl
  | succ n ih => simp [fewT, ih]
theorem fewT_get (cs : List Int) (n v : Nat) (h : v ≤ n) : (fewT cs n).getD v none = few cs v := by
  induction n with
  | zero => have : v = 0 := by omega
            subst this; rfl
  | succ n ih =>
    by_cases e : v = n + 1
    · subst e; rfl
    · rw [← ih (by omega), fewT, getD_lt _ _ _ _ (by rw [fewT_length]; omega)]
theorem few_zero (cs : List Int) : few cs 0 = some 0 := rfl
theorem few_succ (cs : List Int) (n : Nat) : few cs (n + 1) = best (fewT cs n) (n + 1) cs none := by
  unfold few
  rw [fewT, getD_ge _ _ _ _ (by rw [fewT_length]; omega), fewT_length]
  simp

theorem best_le (T : List (Option Nat)) (v : Nat) (hT : ∀ i n, T.getD i none = some n → n ≤ i) (cs : List Int) (hc : ∀ x ∈ cs, 1 ≤ x) : ∀ acc, (∀ n, acc = some n → n ≤ v) → ∀ n, best T v cs acc = some n → n ≤ v := by
  induction cs with
  | nil => intro acc ha n h; exact ha n h
  | cons c cs ih =>
    intro acc ha n h
    refine ih (fun x hx => hc x (List.mem_cons_of_mem _ hx)) _ (fun m hm => ?_) n h
    have h1 := hc c List.mem_cons_self
    by_cases hcv : c ≤ v
    · rw [if_pos hcv] at hm
      cases hg : T.getD (v - c.toNat) none with
      | none => rw [hg] at hm; cases acc with
        | none => simp [omin] at hm
        | some a => simp [omin] at hm; exact ha m (by rw [hm])
      | some b =>
        have hb := hT _ _ hg
        rw [hg] at hm; cases acc with
        | none => simp [omin] at hm; omega
        | some a =>
          have := ha a rfl
          simp [omin] at hm
          split at hm <;> omega
    · rw [if_neg hcv] at hm; exact ha m hm
theorem few_le (cs : List Int) (hc : ∀ x ∈ cs, 1 ≤ x) (v : Nat) : ∀ n, few cs v = some n → n ≤ v := by
  induction v using Nat.strongRecOn with
  | ind v ih =>
    intro n h
    cases v with
    | zero => rw [few_zero] at h; cases h; omega
    | succ v =>
      rw [few_succ] at h
      refine best_le _ _ (fun i m hm => ?_) cs hc none (fun _ h => by cases h) n h
      by_cases hi : i ≤ v
      · rw [fewT_get _ _ _ hi] at hm; exact ih i (by omega) m hm
      · rw [getD_out _ _ _ (by rw [fewT_length]; omega)] at hm; cases hm
theorem fewT_le (cs : List Int) (hc : ∀ x ∈ cs, 1 ≤ x) (v i n : Nat) (h : (fewT cs v).getD i none = some n) : n ≤ i := by
  by_cases hi : i ≤ v
  · rw [fewT_get _ _ _ hi] at h; exact few_le cs hc i n h
  · rw [getD_out _ _ _ (by rw [fewT_length]; omega)] at h; cases h

theorem tab_rd (f : Option Nat → Int) (cs : List Int) (m v : Nat) (h : v ≤ m) : rd ((fewT cs m).map f) (v : Int) = f (few cs v) := by
  rw [rd_nat, getD_map f _ none v (by rw [fewT_length]; omega), fewT_get cs m v h]

end Go.Proofs.Ytohghfeomocnlaa.Pure

/- Plain lemmas: the reference's table holds the fewest coins. -/
namespace Go.Proofs.Ytohghfeomocnlaa.Pure
open Go.RowKit Go.Proofs.Ytohghfeomocnlaa.E Go.Proofs.YtohghfeomocnlaaW.PrintWords Go.Proofs.YtohghfeomocnlaaW.PrintLast

section
variable (cs : List Int) (hc : ∀ x ∈ cs, 1 ≤ x ∧ x ≤ 1000) (hl : cs.length ≤ 35184372088832) (m : Nat) (hm : m ≤ 2000000) (A : List (Option Nat)) (B : List Int)
  (hA : ∀ i n, A.getD i none = some n → n ≤ i) (hv : 1 ≤ A.length) (hvm : A.length + B.length = m) (hacc : Option Nat)
include hc hl hm hA hv hvm

set_option maxHeartbeats 1000000 in
theorem cnFew1 (r : List Int) (d : Nat) : ∀ (i : Nat) (acc : Option Nat), cs.length - i = d → i ≤ cs.length → (∀ n, acc = some n → n ≤ A.length) →
    Ev (fun k => spec_cnFew.l0 k cs (m : Int) (A.map encS ++ encS (best A A.length (cs.drop i) acc) :: B) (((A.length + 1 : Nat)) : Int)) r →
    Ev (fun k => spec_cnFew.l1 k cs (m : Int) (A.map encS ++ encS acc :: B) (A.length : Int) cs (cs.length : Int) (i : Int)) r := by
  induction d with
  | zero =>
    intro i acc hd hi ha h
    rw [List.drop_of_length_le (by omega)] at h
    refine Ev.step (fun k => ?_) h
    rw [spec_cnFew.l1, if_neg (by omega), w64 (by omega) (by omega)]
    rfl
  | succ d ih =>
    intro i acc hd hi ha h
    have hil : i < cs.length := by omega
    have hci := hc cs[i] (List.getElem_mem hil)
    have hlen : (A.map encS ++ encS acc :: B).length = m + 1 := by simp; omega
    rw [List.drop_eq_getElem_cons hil, best] at h
    have w1 : wrap64 ((i : Int) + 1) = ((i + 1 : Nat) : Int) := by rw [w64 (by omega) (by omega)]; rfl
    have hAl : (A.map encS).length = A.length := by simp
    have hat : rd (A.map encS ++ encS acc :: B) (A.length : Int) = encS acc := by rw [← hAl]; exact rd_app_at _ _ _
    have hset : ∀ y, (A.map encS ++ encS acc :: B).set (A.length : Int).toNat y = A.map encS ++ y :: B := fun y => by
      have := set_at (A.map encS) (encS acc) y B
      rw [hAl] at this; exact this
    by_cases hcv : cs[i] ≤ (A.length : Int)
    · rw [if_pos hcv] at h
      have w2 : wrap64 ((A.length : Int) - cs[i]) = ((A.length - cs[i].toNat : Nat) : Int) := by rw [w64 (by omega) (by omega)]; omega
      have hget : rd (A.map encS ++ encS acc :: B) ((A.length - cs[i].toNat : Nat) : Int) = encS (A.getD (A.length - cs[i].toNat) none) := by
        rw [rd_app_lt _ _ _ (by rw [hAl]; omega), getD_map _ _ none _ (by omega)]
      have pre : ∀ k, spec_cnFew.l1 (k + 1) cs (m : Int) (A.map encS ++ encS acc :: B) (A.length : Int) cs (cs.length : Int) (i : Int) =
          (if encS (A.getD (A.length - cs[i].toNat) none) ≥ 0 then (if encS acc < 0 then (spec_cnFew.l1 k cs (m : Int) (A.map encS ++ (wrap64 (encS (A.getD (A.length - cs[i].toNat) none) + 1)) :: B) (A.length : Int) cs (cs.length : Int) ((i + 1 : Nat) : Int))
            else (if wrap64 (encS (A.getD (A.length - cs[i].toNat) none) + 1) < encS acc then (spec_cnFew.l1 k cs (m : Int) (A.map encS ++ (wrap64 (encS (A.getD (A.length - cs[i].toNat) none) + 1)) :: B) (A.length : Int) cs (cs.length : Int) ((i + 1 : Nat) : Int))
              else (spec_cnFew.l1 k cs (m : Int) (A.map encS ++ encS acc :: B) (A.length : Int) cs (cs.length : Int) ((i + 1 : Nat) : Int))))
            else (spec_cnFew.l1 k cs (m : Int) (A.map encS ++ encS acc :: B) (A.length : Int) cs (cs.length : Int) ((i + 1 : Nat) : Int))) := fun k => by
        rw [spec_cnFew.l1, if_pos (by omega), if_pos (by omega), if_pos (by omega), rd_eq cs i hil, if_pos (by omega), w2, if_pos (by omega), if_pos (by omega), hget, w1, if_pos (show (0 : Int) ≤ (A.length : Int) by omega), if_pos (show (A.length : Int) < ((A.map encS ++ encS acc :: B).length : Int) by omega), hat, hset]
      clear hget hat hset hlen hAl
      cases hg : A.getD (A.length - cs[i].toNat) none with
      | none =>
        rw [hg] at h pre
        have e : omin acc (Option.map (· + 1) none) = acc := by cases acc <;> rfl
        rw [e] at h
        exact Ev.step (fun k => by rw [pre, if_neg (by simp [encS])]) (ih (i + 1) acc (by omega) (by omega) ha h)
      | some b =>
        have hb := hA _ _ hg
        rw [hg] at h pre
        have w3 : wrap64 (encS (some b) + 1) = encS (some (b + 1)) := by rw [w64 (by simp [encS]; omega) (by simp [encS]; omega)]; rfl
        rw [w3] at pre
        cases acc with
        | none => exact Ev.step (fun k => by rw [pre, if_pos (by simp [encS]), if_pos (by simp [encS])]) (ih (i + 1) (some (b + 1)) (by omega) (by omega) (fun n hn => by cases hn; omega) h)
        | some a =>
          have ha' := ha a rfl
          by_cases hlt : b + 1 < a
          · have e : omin (some a) (Option.map (· + 1) (some b)) = some (b + 1) := by simp [omin, hlt]
            rw [e] at h
            exact Ev.step (fun k => by rw [pre, if_pos (by simp [encS]), if_neg (by simp [encS]), if_pos (by simp only [encS]; omega)]) (ih (i + 1) (some (b + 1)) (by omega) (by omega) (fun n hn => by cases hn; omega) h)
          · have e : omin (some a) (Option.map (· + 1) (some b)) = some a := by simp [omin, hlt]
            rw [e] at h
            exact Ev.step (fun k => by rw [pre, if_pos (by simp [encS]), if_neg (by simp [encS]), if_neg (by simp only [encS]; omega)]) (ih (i + 1) (some a) (by omega) (by omega) ha h)
    · rw [if_neg hcv] at h
      refine Ev.step (fun k => ?_) (ih (i + 1) acc (by omega) (by omega) ha h)
      rw [spec_cnFew.l1, if_pos (by omega), if_pos (by omega), if_pos (by omega), rd_eq cs i hil, if_neg (by omega), w1]

end

theorem cnFew0 (cs : List Int) (hc : ∀ x ∈ cs, 1 ≤ x ∧ x ≤ 1000) (hl : cs.length ≤ 35184372088832) (m : Nat) (hm : m ≤ 2000000) (d : Nat) : ∀ v : Nat, m - v = d → v ≤ m →
    Ev (fun k => spec_cnFew.l0 k cs (m : Int) ((fewT cs v).map encS ++ List.replicate (m - v) 0) ((v + 1 : Nat) : Int)) ((fewT cs m).map encS) := by
  induction d with
  | zero =>
    intro v hd hv
    have : v = m := by omega
    subst this
    refine Ev.one fun k => ?_
    rw [spec_cnFew.l0, if_neg (by omega)]
    simp
  | succ d ih =>
    intro v hd hv
    have hlen := fewT_length cs v
    have hml : ((fewT cs v).map encS).length = v + 1 := by simp [hlen]
    have h := cnFew1 cs hc hl m hm (fewT cs v) (List.replicate (m - (v + 1)) 0) (fun i n => fewT_le cs (fun x hx => (hc x hx).1) v i n) (by omega) (by simp [hlen]; omega) ((fewT cs m).map encS) cs.length 0 none (by omega) (by omega) (fun _ h => by cases h) (by
      have e : (fewT cs v).map encS ++ encS (best (fewT cs v) (fewT cs v).length (cs.drop 0) none) :: List.replicate (m - (v + 1)) 0 = (fewT cs (v + 1)).map encS ++ List.replicate (m - (v + 1)) 0 := by
        rw [fewT, hlen]; simp
      rw [e, hlen]
      exact ih (v + 1) (by omega) (by omega))
    refine Ev.step (fun k => ?_) h
    rw [spec_cnFew.l0, if_pos (by omega), if_pos (by omega), if_pos (by simp [hlen]; omega)]
    have e : ((fewT cs v).map encS ++ List.replicate (m - v) 0).set ((v + 1 : Nat) : Int).toNat (-1) = (fewT cs v).map encS ++ encS none :: List.replicate (m - (v + 1)) 0 := by
      rw [show m - v = (m - (v + 1)) + 1 by omega, List.replicate_succ, Int.toNat_natCast]
      have := set_at ((fewT cs v).map encS) 0 (-1) (List.replicate (m - (v + 1)) 0)
      rw [hml] at this; exact this
    rw [e, hlen]
    rfl
theorem cnFew_ev (cs : List Int) (hc : ∀ x ∈ cs, 1 ≤ x ∧ x ≤ 1000) (hl : cs.length ≤ 35184372088832) (m : Nat) (hm : m ≤ 2000000) : Ev (fun k => spec_cnFew.f k cs (m : Int)) ((fewT cs m).map encS) := by
  unfold spec_cnFew.f
  have e : wrap64 ((m : Int) + 1) = ((m + 1 : Nat) : Int) := by rw [w64 (by omega) (by omega)]; rfl
  refine Ev.if_pos' (by omega) (Ev.if_pos' (by omega) ?_)
  rw [e, Int.toNat_natCast, List.replicate_succ]
  exact cnFew0 cs hc hl m hm m 0 (by omega) (by omega)

end Go.Proofs.Ytohghfeomocnlaa.Pure

/- Plain lemmas on the fewest coins: one coin more, one coin less. -/
namespace Go.Proofs.Ytohghfeomocnlaa.Pure
open Go.RowKit Go.Proofs.Ytohghfeomocnlaa.E Go.Proofs.YtohghfeomocnlaaW.PrintWords Go.Proofs.YtohghfeomocnlaaW.PrintLast

theorem best_acc (T : List (Option Nat)) (v : Nat) (cs : List Int) : ∀ a, (∃ n, best T v cs (some a) = some n ∧ n ≤ a) := by
  induction cs with
  | nil => intro a; exact ⟨a, rfl, by omega⟩
  | cons c cs ih =>
    intro a
    rw [best]
    by_cases hc : c ≤ (v : Int)
    · rw [if_pos hc]
      cases T.getD (v - c.toNat) none with
      | none => exact ih a
      | some b =>
        by_cases hb : b + 1 < a
        · obtain ⟨n, h1, h2⟩ := ih (b + 1)
          exact ⟨n, by simpa [omin, hb] using h1, by omega⟩
        · obtain ⟨n, h1, h2⟩ := ih a
          exact ⟨n, by simpa [omin, hb] using h1, h2⟩
    · rw [if_neg hc]; exact ih a
theorem best_lower (T : List (Option Nat)) (v : Nat) (cs : List Int) : ∀ acc c m, c ∈ cs → c ≤ (v : Int) → T.getD (v - c.toNat) none = some m → ∃ n, best T v cs acc = some n ∧ n ≤ m + 1 := by
  induction cs with
  | nil => intro acc c m h; simp at h
  | cons d cs ih =>
    intro acc c m hc hcv hm
    rw [best]
    rcases List.mem_cons.1 hc with rfl | h
    · rw [if_pos hcv, hm]
      have hx : ∃ x, omin acc (Option.map (· + 1) (some m)) = some x ∧ x ≤ m + 1 := by
        cases acc with
        | none => exact ⟨m + 1, rfl, by omega⟩
        | some a =>
          by_cases hb : m + 1 < a
          · exact ⟨m + 1, by simp [omin, hb], by omega⟩
          · exact ⟨a, by simp [omin, hb], by omega⟩
      obtain ⟨x, hx1, hx2⟩ := hx
      rw [hx1]
      obtain ⟨n, h1, h2⟩ := best_acc T v cs x
      exact ⟨n, h1, by omega⟩
    · exact ih _ c m h hcv hm
theorem best_from (T : List (Option Nat)) (v : Nat) (cs : List Int) : ∀ acc n, best T v cs acc = some n → acc = some n ∨ ∃ c m, c ∈ cs ∧ c ≤ (v : Int) ∧ T.getD (v - c.toNat) none = some m ∧ n = m + 1 := by
  induction cs with
  | nil => intro acc n h; exact .inl h
  | cons c cs ih =>
    intro acc n h
    rw [best] at h
    rcases ih _ n h with h1 | ⟨d, m, hd, h1, h2, h3⟩
    · by_cases hc : c ≤ (v : Int)
      · rw [if_pos hc] at h1
        cases hT : T.getD (v - c.toNat) none with
        | none => rw [hT] at h1; cases acc with
          | none => simp [omin] at h1
          | some a => exact .inl (by simpa [omin] using h1)
        | some b =>
          rw [hT] at h1
          cases acc with
          | none => exact .inr ⟨c, b, List.mem_cons_self, hc, hT, by simpa [omin] using h1.symm⟩
          | some a =>
            by_cases hb : b + 1 < a
            · exact .inr ⟨c, b, List.mem_cons_self, hc, hT, by simpa [omin, hb] using h1.symm⟩
            · exact .inl (by simpa [omin, hb] using h1)
      · rw [if_neg hc] at h1; exact .inl h1
    · exact .inr ⟨d, m, List.mem_cons_of_mem _ hd, h1, h2, h3⟩
section
variable (l : List Int) (hc : ∀ x ∈ l, 1 ≤ x ∧ x ≤ 1000)
include hc
/-- One coin more is change for what is that much more. -/
theorem few_add (c : Int) (hm : c ∈ l) (v m : Nat) (h : few l v = some m) : ∃ n, few l (v + c.toNat) = some n ∧ n ≤ m + 1 := by
  have hb := hc c hm
  obtain ⟨w, hw⟩ : ∃ w, v + c.toNat = w + 1 := ⟨v + c.toNat - 1, by omega⟩
  rw [hw, few_succ]
  refine best_lower _ _ l none c m hm (by omega) ?_
  rw [show w + 1 - c.toNat = v by omega, fewT_get l w v (by omega)]
  exact h
/-- What has change has a coin in it. -/
theorem few_sub (v n : Nat) (h : few l v = some n) (hv : 0 < v) : ∃ c m, c ∈ l ∧ c.toNat ≤ v ∧ few l (v - c.toNat) = some m ∧ n = m + 1 := by
  obtain ⟨w, rfl⟩ : ∃ w, v = w + 1 := ⟨v - 1, by omega⟩
  rw [few_succ] at h
  rcases best_from _ _ l none n h with h1 | ⟨c, m, h1, h2, h3, h4⟩
  · cases h1
  · have hb := hc c h1
    rw [fewT_get l w _ (by omega)] at h3
    exact ⟨c, m, h1, by omega, h3, h4⟩
end

end Go.Proofs.Ytohghfeomocnlaa.Pure

/- Plain lemmas: the amounts that coins pay, by their remainders by one coin; if the coins have no common divisor, all remainders are paid by amounts that are not great. -/
namespace Go.Proofs.Ytohghfeomocnlaa.Pure
open Go.RowKit Go.Proofs.Ytohghfeomocnlaa.E Go.Proofs.YtohghfeomocnlaaW.PrintWords Go.Proofs.YtohghfeomocnlaaW.PrintLast

/-- There is change for v. -/
def Pd (l : List Int) (v : Nat) : Prop := ∃ n, few l v = some n
theorem Pd_zero (l : List Int) : Pd l 0 := ⟨0, few_zero l⟩
section
variable (l : List Int) (hc : ∀ x ∈ l, 1 ≤ x ∧ x ≤ 1000)
include hc
theorem Pd_add (c : Int) (hm : c ∈ l) (v : Nat) (h : Pd l v) : Pd l (v + c.toNat) := by
  obtain ⟨m, h⟩ := h
  obtain ⟨n, h1, _⟩ := few_add l hc c hm v m h
  exact ⟨n, h1⟩
theorem Pd_sub (v : Nat) (h : Pd l v) (hv : 0 < v) : ∃ c, c ∈ l ∧ c.toNat ≤ v ∧ Pd l (v - c.toNat) := by
  obtain ⟨n, h⟩ := h
  obtain ⟨c, m, h1, h2, h3, _⟩ := few_sub l hc v n h hv
  exact ⟨c, h1, h2, m, h3⟩
theorem Pd_sum (u : Nat) (hu : Pd l u) (v : Nat) : Pd l v → Pd l (u + v) := by
  induction v using Nat.strongRecOn with
  | ind v ih =>
    intro h
    by_cases hv : v = 0
    · subst hv; exact hu
    · obtain ⟨c, h1, h2, h3⟩ := Pd_sub l hc v h (by omega)
      have hb := hc c h1
      have := Pd_add l hc c h1 _ (ih (v - c.toNat) (by omega) h3)
      rw [show u + (v - c.toNat) + c.toNat = u + v by omega] at this
      exact this
theorem Pd_mul (v : Nat) (h : Pd l v) (k : Nat) : Pd l (k * v) := by
  induction k with
  | zero => rw [Nat.zero_mul]; exact Pd_zero l
  | succ k ih => rw [Nat.add_mul, Nat.one_mul]; exact Pd_sum l hc _ ih v h
theorem few_top (T : Nat) (hT : ∀ x ∈ l, x.toNat ≤ T) (v : Nat) : ∀ n, few l v = some n → v ≤ n * T := by
  induction v using Nat.strongRecOn with
  | ind v ih =>
    intro n h
    by_cases hv : v = 0
    · omega
    · obtain ⟨c, m, h1, h2, h3, h4⟩ := few_sub l hc v n h (by omega)
      have hb := hc c h1
      have := ih (v - c.toNat) (by omega) m h3
      have := hT c h1
      rw [h4, Nat.add_mul, Nat.one_mul]
      omega
end
/-- Some amount with change has the remainder of r by m. -/
def Res (l : List Int) (m r : Nat) : Prop := ∃ v, Pd l v ∧ v % m = r % m
theorem Res_congr {l : List Int} {m a b : Nat} (h : a % m = b % m) (k : Res l m a) : Res l m b := by
  obtain ⟨v, h1, h2⟩ := k
  exact ⟨v, h1, by rw [h2, h]⟩
section
variable (l : List Int) (hc : ∀ x ∈ l, 1 ≤ x ∧ x ≤ 1000) (m : Nat) (hm : 0 < m)
include hc
theorem Res_sum (a b : Nat) (ha : Res l m a) (hb : Res l m b) : Res l m (a + b) := by
  obtain ⟨u, h1, h2⟩ := ha
  obtain ⟨v, h3, h4⟩ := hb
  exact ⟨u + v, Pd_sum l hc u h1 v h3, by rw [Nat.add_mod, h2, h4, ← Nat.add_mod]⟩
theorem Res_mul (a : Nat) (ha : Res l m a) (k : Nat) : Res l m (k * a) := by
  obtain ⟨u, h1, h2⟩ := ha
  exact ⟨k * u, Pd_mul l hc u h1 k, by rw [Nat.mul_mod, h2, ← Nat.mul_mod]⟩
include hm
theorem Res_mod (a b : Nat) (ha : Res l m a) (hb : Res l m b) : Res l m (a % b) := by
  have h := Res_sum l hc m a _ ha (Res_mul l hc m b hb ((m - 1) * (a / b)))
  refine Res_congr ?_ h
  have e1 : a = a % b + (a / b) * b := by rw [Nat.mul_comm (a / b) b]; exact (Nat.mod_add_div a b).symm
  have e2 : a + (m - 1) * (a / b) * b = a % b + ((a / b) * b) * m := by
    obtain ⟨q, rfl⟩ : ∃ q, m = q + 1 := ⟨m - 1, by omega⟩
    conv => lhs; lhs; rw [e1]
    rw [Nat.add_sub_cancel, Nat.mul_assoc, Nat.mul_add, Nat.mul_one, Nat.mul_comm q]
    omega
  rw [e2, Nat.add_mul_mod_self_right]
theorem Res_gcd (b : Nat) : ∀ a, Res l m a → Res l m b → Res l m (Nat.gcd a b) := by
  induction b using Nat.strongRecOn with
  | ind b ih =>
    intro a ha hb
    by_cases h0 : b = 0
    · subst h0; rw [Nat.gcd_zero_right]; exact ha
    · rw [Nat.gcd_comm a b, Nat.gcd_rec b a, Nat.gcd_comm]
      exact ih (a % b) (Nat.mod_lt _ (by omega)) b hb (Res_mod l hc m hm a b ha hb)
theorem Res_fold (t : List Int) (ht : ∀ x ∈ t, x ∈ l) : ∀ d, Res l m d → Res l m (t.foldl (fun d c => Nat.gcd d c.toNat) d) := by
  induction t with
  | nil => intro d h; exact h
  | cons c t ih =>
    intro d h
    refine ih (fun x hx => ht x (List.mem_cons_of_mem _ hx)) _ (Res_gcd l hc m hm _ d h ?_)
    have := Pd_add l hc c (ht c List.mem_cons_self) 0 (Pd_zero l)
    exact ⟨c.toNat, by simpa using this, rfl⟩
/-- Without a common divisor all remainders are paid. -/
theorem Res_all (hg : l.foldl (fun d c => Nat.gcd d c.toNat) 0 = 1) (r : Nat) : Res l m r := by
  have h := Res_fold l hc m hm l (fun _ h => h) 0 ⟨0, Pd_zero l, rfl⟩
  rw [hg] at h
  simpa using Res_mul l hc m 1 h r
end

theorem count_le {α : Type} (p q : α → Bool) (L : List α) (h : ∀ x ∈ L, p x = true → q x = true) : (L.filter p).length ≤ (L.filter q).length := by
  induction L with
  | nil => exact Nat.le_refl _
  | cons a t ih =>
    have := ih (fun x hx => h x (List.mem_cons_of_mem _ hx))
    have ha := h a List.mem_cons_self
    rw [List.filter_cons, List.filter_cons]
    cases hp : p a
    · cases q a <;> simp <;> omega
    · rw [ha hp]; simp; omega
theorem count_lt {α : Type} (p q : α → Bool) (L : List α) (h : ∀ x ∈ L, p x = true → q x = true) (y : α) (hy : y ∈ L) (hq : q y = true) (hp : p y = false) : (L.filter p).length < (L.filter q).length := by
  induction L with
  | nil => simp at hy
  | cons a t ih =>
    rw [List.filter_cons, List.filter_cons]
    have ha := h a List.mem_cons_self
    rcases List.mem_cons.1 hy with rfl | hy
    · have := count_le p q t (fun x hx => h x (List.mem_cons_of_mem _ hx))
      rw [hp, hq]; simp; omega
    · have := ih (fun x hx => h x (List.mem_cons_of_mem _ hx)) hy
      cases hpa : p a
      · cases q a <;> simp <;> omega
      · rw [ha hpa]; simp; omega
/-- What is paid by j coins at most, by remainders. -/
def By (l : List Int) (m j r : Nat) : Prop := ∃ v n, few l v = some n ∧ n ≤ j ∧ v % m = r
open Classical in
noncomputable def byB (l : List Int) (m j r : Nat) : Bool := decide (By l m j r)
theorem byB_iff (l : List Int) (m j r : Nat) : byB l m j r = true ↔ By l m j r := by unfold byB; simp only [decide_eq_true_eq]
theorem By_up (l : List Int) (m j r : Nat) (h : By l m j r) : By l m (j + 1) r := by
  obtain ⟨v, n, h1, h2, h3⟩ := h
  exact ⟨v, n, h1, by omega, h3⟩
section
variable (l : List Int) (hc : ∀ x ∈ l, 1 ≤ x ∧ x ≤ 1000) (m : Nat) (hm : 0 < m)
include hm
theorem By_grow (j : Nat) : (∃ i, i < j ∧ ∀ r, r < m → By l m (i + 1) r → By l m i r) ∨ j + 1 ≤ ((List.range m).filter (byB l m j)).length := by
  induction j with
  | zero =>
    refine .inr ?_
    have h0 : byB l m 0 0 = true := (byB_iff _ _ _ _).2 ⟨0, 0, few_zero l, by omega, Nat.zero_mod m⟩
    have h := count_lt (fun _ => false) (byB l m 0) (List.range m) (fun x _ h => by cases h) 0 (List.mem_range.2 hm) h0 rfl
    omega
  | succ j ih =>
    rcases ih with ⟨i, h1, h2⟩ | h
    · exact .inl ⟨i, by omega, h2⟩
    · by_cases hs : ∀ r, r < m → By l m (j + 1) r → By l m j r
      · exact .inl ⟨j, by omega, hs⟩
      · refine .inr ?_
        have : ∃ r, r < m ∧ By l m (j + 1) r ∧ ¬ By l m j r := by
          apply Classical.byContradiction
          intro hn
          exact hs (fun r hr hb => Classical.byContradiction fun hnb => hn ⟨r, hr, hb, hnb⟩)
        obtain ⟨r, hr, h3, h4⟩ := this
        have hlt := count_lt (byB l m j) (byB l m (j + 1)) (List.range m) (fun x _ hx => (byB_iff _ _ _ _).2 (By_up _ _ _ _ ((byB_iff _ _ _ _).1 hx))) r (List.mem_range.2 hr) ((byB_iff _ _ _ _).2 h3) (by
          cases hb : byB l m j r with
          | false => rfl
          | true => exact absurd ((byB_iff _ _ _ _).1 hb) h4)
        omega
include hc
/-- Each remainder that is paid at all is paid by less than m coins. -/
theorem By_all (v : Nat) (h : Pd l v) : ∃ j, j < m ∧ By l m j (v % m) := by
  obtain ⟨i, h1, h2⟩ : ∃ i, i < m ∧ ∀ r, r < m → By l m (i + 1) r → By l m i r := by
    rcases By_grow l m hm m with h | h
    · exact h
    · have := List.length_filter_le (byB l m m) (List.range m)
      rw [List.length_range] at this
      omega
  refine ⟨i, h1, ?_⟩
  induction v using Nat.strongRecOn with
  | ind v ih =>
    by_cases hv : v = 0
    · subst hv; exact ⟨0, 0, few_zero l, by omega, rfl⟩
    · obtain ⟨c, h3, h4, h5⟩ := Pd_sub l hc v h (by omega)
      have hb := hc c h3
      obtain ⟨u, n, h6, h7, h8⟩ := ih (v - c.toNat) (by omega) h5
      obtain ⟨k, h9, h10⟩ := few_add l hc c h3 u n h6
      refine h2 _ (Nat.mod_lt _ hm) ⟨u + c.toNat, k, h9, by omega, ?_⟩
      rw [Nat.add_mod, h8, ← Nat.add_mod, Nat.sub_add_cancel h4]
/-- The least amount with a remainder is not great. -/
theorem Pd_small (T : Nat) (hT : ∀ x ∈ l, x.toNat ≤ T) (v : Nat) (h : Pd l v) : ∃ u, Pd l u ∧ u % m = v % m ∧ u ≤ (m - 1) * T := by
  obtain ⟨j, h1, u, n, h2, h3, h4⟩ := By_all l hc m hm v h
  have := few_top l hc T hT u n h2
  have := Nat.mul_le_mul_right T (show n ≤ m - 1 by omega)
  exact ⟨u, ⟨n, h2⟩, h4, by omega⟩
end

end Go.Proofs.Ytohghfeomocnlaa.Pure

/- Plain lemmas: the greatest common divisor, as the program reckons it. -/
namespace Go.Proofs.Ytohghfeomocnlaa.Pure
open Go.RowKit Go.Proofs.Ytohghfeomocnlaa.E Go.Proofs.YtohghfeomocnlaaW.PrintWords Go.Proofs.YtohghfeomocnlaaW.PrintLast

theorem gcd_step (a b : Nat) : Nat.gcd a b = Nat.gcd b (a % b) := by rw [Nat.gcd_comm a b, Nat.gcd_rec b a, Nat.gcd_comm]
theorem tmod_nat (a b : Nat) : Int.tmod (a : Int) (b : Int) = ((a % b : Nat) : Int) := by rw [Int.tmod_eq_emod_of_nonneg (by omega)]; rfl
theorem gcd_loop (b : Nat) : ∀ a : Nat, Ev (fun k => impl_gcd.l0 k (a : Int) (b : Int)) ((Nat.gcd a b : Nat) : Int) := by
  induction b using Nat.strongRecOn with
  | ind b ih =>
    intro a
    by_cases hb : b = 0
    · subst hb
      exact Ev.one fun k => by rw [impl_gcd.l0, if_pos (by omega), Nat.gcd_zero_right]
    · rw [gcd_step]
      refine Ev.step (fun k => ?_) (ih (a % b) (Nat.mod_lt _ (by omega)) b)
      rw [impl_gcd.l0, if_neg (by omega), tmod_nat]
theorem gcd_ev (a b : Nat) : Ev (fun k => impl_gcd.f k (a : Int) (b : Int)) ((Nat.gcd a b : Nat) : Int) := by
  unfold impl_gcd.f
  exact gcd_loop b a
end Go.Proofs.Ytohghfeomocnlaa.Pure

/- Plain lemmas: the greatest element of a list, as the program reckons it. -/
namespace Go.Proofs.Ytohghfeomocnlaa.Pure
open Go.RowKit Go.Proofs.Ytohghfeomocnlaa.E Go.Proofs.YtohghfeomocnlaaW.PrintWords Go.Proofs.YtohghfeomocnlaaW.PrintLast

theorem max_loop (L : List Int) (hl : L.length ≤ 35184372088832) (d : Nat) : ∀ (i : Nat) (m : Int), L.length - i = d → i ≤ L.length → m ∈ L → (∀ x ∈ L.take i, x ≤ m) →
    ∃ M, Ev (fun k => slices_Max_int_int.l0 k L m (i : Int)) M ∧ M ∈ L ∧ ∀ x ∈ L, x ≤ M := by
  induction d with
  | zero =>
    intro i m hd hi hm hx
    rw [List.take_of_length_le (by omega)] at hx
    exact ⟨m, Ev.one fun k => by rw [slices_Max_int_int.l0, if_neg (by omega)], hm, hx⟩
  | succ d ih =>
    intro i m hd hi hm hx
    have hil : i < L.length := by omega
    have hmx : mx m L[i] = m ∧ L[i] ≤ m ∨ mx m L[i] = L[i] ∧ m < L[i] := by
      by_cases h : m < L[i]
      · exact .inr ⟨if_pos h, h⟩
      · exact .inl ⟨if_neg h, by omega⟩
    obtain ⟨M, h1, h2, h3⟩ := ih (i + 1) (mx m L[i]) (by omega) (by omega) (by
      rcases hmx with ⟨h, _⟩ | ⟨h, _⟩ <;> rw [h]
      · exact hm
      · exact List.getElem_mem hil) (fun x hx' => by
      rw [List.take_succ_eq_append_getElem hil] at hx'
      rcases List.mem_append.1 hx' with h | h
      · have := hx x h; rcases hmx with ⟨e, _⟩ | ⟨e, _⟩ <;> omega
      · rw [List.mem_singleton.1 h]; rcases hmx with ⟨e, _⟩ | ⟨e, _⟩ <;> omega)
    refine ⟨M, Ev.step (fun k => ?_) h1, h2, h3⟩
    rw [slices_Max_int_int.l0, if_pos (by omega), if_pos (by omega), rd_eq L i hil, w64 (by omega) (by omega)]
    rfl
theorem max_ev (L : List Int) (h0 : 1 ≤ L.length) (hl : L.length ≤ 35184372088832) : ∃ M, Ev (fun k => slices_Max_int_int.f k L) M ∧ M ∈ L ∧ ∀ x ∈ L, x ≤ M := by
  unfold slices_Max_int_int.f
  have e : rd L 0 = L[0] := rd_eq L 0 (by omega)
  obtain ⟨M, h1, h2⟩ := max_loop L hl (L.length - 1) 1 L[0] rfl (by omega) (List.getElem_mem (by omega)) (fun x hx => by
    rw [List.take_succ_eq_append_getElem (by omega)] at hx; simp at hx; omega)
  refine ⟨M, Ev.if_neg' (by omega) (Ev.if_pos' (by omega) ?_), h2⟩
  rw [e]
  exact h1

end Go.Proofs.Ytohghfeomocnlaa.Pure

/- Plain lemmas: the program's table of the least amounts by their remainders: what it holds when the loop comes to rest. -/
namespace Go.Proofs.Ytohghfeomocnlaa.Pure
open Go.RowKit Go.Proofs.Ytohghfeomocnlaa.E Go.Proofs.YtohghfeomocnlaaW.PrintWords Go.Proofs.YtohghfeomocnlaaW.PrintLast

/-- The greatest common divisor of a list. -/
def gcds (d : Nat) (l : List Int) : Nat := l.foldl (fun d c => Nat.gcd d c.toNat) d
theorem common_gcd (l : List Int) (x8 : Int) (i : Nat) (hi : i ≤ 35184372088832) (r : Int) (b : Nat) : ∀ a : Nat, Ev (fun k => spec_cnCommon.l0 k ((Nat.gcd a b : Nat) : Int) l x8 ((i + 1 : Nat) : Int)) r →
    Ev (fun k => spec_cnCommon.l1 k (a : Int) (b : Int) l x8 (i : Int)) r := by
  induction b using Nat.strongRecOn with
  | ind b ih =>
    intro a h
    by_cases hb : b = 0
    · subst hb
      rw [Nat.gcd_zero_right] at h
      refine Ev.step (fun k => ?_) h
      rw [spec_cnCommon.l1, if_neg (by omega), w64 (by omega) (by omega)]
      rfl
    · rw [gcd_step] at h
      refine Ev.step (fun k => ?_) (ih (a % b) (Nat.mod_lt _ (by omega)) b h)
      rw [spec_cnCommon.l1, if_pos (by omega), if_neg (by omega), tmod_nat]
theorem common_loop (l : List Int) (hl : l.length ≤ 35184372088832) (hc : ∀ x ∈ l, 1 ≤ x ∧ x ≤ 1000) (d : Nat) : ∀ (i a : Nat), l.length - i = d → i ≤ l.length →
    Ev (fun k => spec_cnCommon.l0 k (a : Int) l (l.length : Int) (i : Int)) ((gcds a (l.drop i) : Nat) : Int) := by
  induction d with
  | zero =>
    intro i a hd hi
    refine Ev.one fun k => ?_
    rw [spec_cnCommon.l0, if_neg (by omega), List.drop_of_length_le (by omega)]
    rfl
  | succ d ih =>
    intro i a hd hi
    have hil : i < l.length := by omega
    have hci := hc l[i] (List.getElem_mem hil)
    have h := common_gcd l (l.length : Int) i (by omega) _ l[i].toNat a (ih (i + 1) (Nat.gcd a l[i].toNat) (by omega) (by omega))
    rw [List.drop_eq_getElem_cons hil]
    refine Ev.step (fun k => ?_) h
    rw [spec_cnCommon.l0, if_pos (by omega), if_pos (by omega), if_pos (by omega), rd_eq l i hil, show ((l[i].toNat : Nat) : Int) = l[i] by omega]
theorem cnCommon_ev (l : List Int) (hl : l.length ≤ 35184372088832) (hc : ∀ x ∈ l, 1 ≤ x ∧ x ≤ 1000) : Ev (fun k => spec_cnCommon.f k l) ((gcds 0 l : Nat) : Int) := by
  unfold spec_cnCommon.f
  exact common_loop l hl hc l.length 0 0 (by omega) (by omega)

/-- The number that stands for 'none yet'. -/
abbrev far : Int := 1099511627776
/-- What holds of the table at all times. -/
def Tab (l : List Int) (m : Nat) (L : List Int) : Prop := L.length = m ∧ rd L 0 = 0 ∧ ∀ r : Nat, r < m → L.getD r 0 = far ∨ ∃ v : Nat, L.getD r 0 = v ∧ (v : Int) < far ∧ Pd l v ∧ v % m = r
/-- At a place no coin makes anything less. -/
def Calm (m : Nat) (L : List Int) (r : Nat) (c : Int) : Prop := ¬ (L.getD r 0 + c < L.getD ((L.getD r 0 + c).toNat % m) 0)
def wt (L : List Int) : Nat := (L.map Int.toNat).sum
theorem wt_set (L : List Int) : ∀ (i : Nat) (x : Int), i < L.length → 0 ≤ x → x < L.getD i 0 → wt (L.set i x) < wt L := by
  induction L with
  | nil => intro i x h; simp at h
  | cons a t ih =>
    intro i x h h0 hx
    cases i with
    | zero =>
      simp only [List.getD_cons_zero] at hx
      simp only [wt, List.set_cons_zero, List.map_cons, List.sum_cons]
      omega
    | succ i =>
      simp only [List.getD_cons_succ] at hx
      have := ih i x (by simpa using h) h0 hx
      simp only [wt, List.set_cons_succ, List.map_cons, List.sum_cons] at *
      omega
theorem l4_step (l L : List Int) (m r i a : Nat) (b : Bool) (x46 : Int) (hl8 : l.length ≤ 8) (hil : i < l.length) (hL : L.length = m) (hr : r < m) (hc0 : rd l 0 = (m : Int)) (hm : 0 < m) (hs : wrap64 (rd L (r : Int) + rd l (i : Int)) = (a : Int)) (k : Nat) :
    impl_residues.l4 (k + 1) l L b (r : Int) x46 (r : Int) l (l.length : Int) (i : Int) = if (a : Int) < L.getD (a % m) 0 then impl_residues.l4 k l (L.set (a % m) (a : Int)) true (r : Int) x46 (r : Int) l (l.length : Int) ((i + 1 : Nat) : Int) else impl_residues.l4 k l L b (r : Int) x46 (r : Int) l (l.length : Int) ((i + 1 : Nat) : Int) := by
  have w1 : wrap64 ((i : Int) + 1) = ((i + 1 : Nat) : Int) := by rw [w64 (by omega) (by omega)]; rfl
  have hq : a % m < m := Nat.mod_lt _ hm
  rw [impl_residues.l4, hs, hc0, w1, tmod_nat]
  clear hs w1
  rw [if_pos (by omega), if_pos (by omega), if_pos (by omega), if_pos (by omega), if_pos (by omega), if_pos (by omega), if_neg (by omega), if_pos (by omega), if_pos (by omega), Int.toNat_natCast, rd_nat]
section
variable (l : List Int) (hc : ∀ x ∈ l, 1 ≤ x ∧ x ≤ 1000) (m : Nat) (hm : 0 < m) (hm2 : m ≤ 1000)
theorem Tab_range (L : List Int) (h : Tab l m L) (r : Nat) (hr : r < m) : 0 ≤ L.getD r 0 ∧ L.getD r 0 ≤ far := by
  rcases h.2.2 r hr with h | ⟨v, h1, h2, _⟩
  · rw [h]; unfold far; omega
  · rw [h1]; omega
include hc hm in
theorem Tab_set (L : List Int) (h : Tab l m L) (r : Nat) (hr : r < m) (c : Int) (hcl : c ∈ l) (hlt : L.getD r 0 + c < L.getD ((L.getD r 0 + c).toNat % m) 0) : Tab l m (L.set ((L.getD r 0 + c).toNat % m) (L.getD r 0 + c)) := by
  have hcb := hc c hcl
  have hq : (L.getD r 0 + c).toNat % m < m := Nat.mod_lt _ hm
  have hb := Tab_range l m L h _ hq
  obtain ⟨h1, h2, h3⟩ := h
  rcases h3 r hr with hf | ⟨v, e1, e2, e3, e4⟩
  · rw [hf] at hlt hb; unfold far at *; omega
  · rw [e1] at hlt hb ⊢
    have et : ((v : Int) + c).toNat = v + c.toNat := by omega
    rw [et] at hlt hb ⊢
    have hne : (v + c.toNat) % m ≠ 0 := fun e => by
      have h2' : L.getD 0 0 = 0 := h2
      rw [e, h2'] at hlt; omega
    refine ⟨by simpa using h1, ?_, fun s hs => ?_⟩
    · show (L.set _ _).getD 0 0 = 0
      have h2' : L.getD 0 0 = 0 := h2
      simp only [List.getD] at *
      rw [List.getElem?_set_ne hne]; exact h2'
    · by_cases es : (v + c.toNat) % m = s
      · refine .inr ⟨v + c.toNat, ?_, by omega, Pd_add l hc c hcl v e3, es⟩
        simp only [List.getD]
        rw [es, List.getElem?_set_self (by omega)]
        simp; omega
      · have : (L.set ((v + c.toNat) % m) ((v : Int) + c)).getD s 0 = L.getD s 0 := by
          simp only [List.getD]; rw [List.getElem?_set_ne es]
        rw [this]
        exact h3 s hs
include hc hm hm2
/-- One place: all coins. 'b' is the word 'again'. -/
theorem relax_in (hc0 : rd l 0 = (m : Int)) (hl8 : l.length ≤ 8) (L0 : List Int) (ok0 : Prop) (r : Nat) (hr : r < m) (x46 : Int) (d : Nat) :
    ∀ (i : Nat) (L : List Int) (b : Bool), l.length - i = d → i ≤ l.length → Tab l m L → ((L = L0 ∧ b = false ∧ ok0 ∧ ∀ c ∈ l.take i, Calm m L r c) ∨ (b = true ∧ wt L < wt L0)) →
    ∃ L' b', Tab l m L' ∧ ((L' = L0 ∧ b' = false ∧ ok0 ∧ ∀ c ∈ l, Calm m L' r c) ∨ (b' = true ∧ wt L' < wt L0)) ∧
      ∀ out, Ev (fun k => impl_residues.l3 k l L' b' x46 ((r + 1 : Nat) : Int)) out → Ev (fun k => impl_residues.l4 k l L b (r : Int) x46 (r : Int) l (l.length : Int) (i : Int)) out := by
  induction d with
  | zero =>
    intro i L b hd hi hT hs
    refine ⟨L, b, hT, by rwa [List.take_of_length_le (by omega)] at hs, fun out h => Ev.step (fun k => ?_) h⟩
    rw [impl_residues.l4, if_neg (by omega), w64 (by omega) (by omega)]
    rfl
  | succ d ih =>
    intro i L b hd hi hT hs
    have hil : i < l.length := by omega
    have hci := hc l[i] (List.getElem_mem hil)
    have hrl : r < L.length := by rw [hT.1]; exact hr
    have hb : 0 ≤ L.getD r 0 ∧ L.getD r 0 ≤ 1099511627776 := Tab_range l m L hT r hr
    obtain ⟨a, ha⟩ : ∃ a : Nat, L.getD r 0 + l[i] = a := ⟨(L.getD r 0 + l[i]).toNat, by omega⟩
    have hq : a % m < m := Nat.mod_lt _ hm
    have pre := l4_step l L m r i a b x46 hl8 hil hT.1 hr hc0 hm (by
      rw [rd_nat, rd_eq l i hil, ha, w64 (by omega) (by omega)])
    by_cases hlt : (a : Int) < L.getD (a % m) 0
    · have hset := Tab_set l hc m hm L hT r hr l[i] (List.getElem_mem hil) (by rw [ha, Int.toNat_natCast]; exact hlt)
      rw [ha, Int.toNat_natCast] at hset
      have hw := wt_set L (a % m) (a : Int) (by rw [hT.1]; exact hq) (by omega) hlt
      obtain ⟨L', b', g1, g2, g3⟩ := ih (i + 1) _ true (by omega) (by omega) hset (.inr ⟨rfl, by
        rcases hs with ⟨rfl, _⟩ | ⟨_, h2⟩
        · exact hw
        · omega⟩)
      exact ⟨L', b', g1, g2, fun out h => Ev.step (fun k => by rw [pre, if_pos hlt]) (g3 out h)⟩
    · obtain ⟨L', b', g1, g2, g3⟩ := ih (i + 1) L b (by omega) (by omega) hT (by
        rcases hs with ⟨h1, h2, h3, h4⟩ | h
        · refine .inl ⟨h1, h2, h3, fun c hcm => ?_⟩
          rw [List.take_succ_eq_append_getElem hil] at hcm
          rcases List.mem_append.1 hcm with h5 | h5
          · exact h4 c h5
          · rw [List.mem_singleton.1 h5]; unfold Calm; rw [ha, Int.toNat_natCast]; exact hlt
        · exact .inr h)
      exact ⟨L', b', g1, g2, fun out h => Ev.step (fun k => by rw [pre, if_neg hlt]) (g3 out h)⟩
/-- One round: all places. -/
theorem relax_round (hc0 : rd l 0 = (m : Int)) (hl8 : l.length ≤ 8) (L0 : List Int) (d : Nat) :
    ∀ (r : Nat) (L : List Int) (b : Bool), m - r = d → r ≤ m → Tab l m L → ((L = L0 ∧ b = false ∧ ∀ s, s < r → ∀ c ∈ l, Calm m L s c) ∨ (b = true ∧ wt L < wt L0)) →
    ∃ L' b', Tab l m L' ∧ ((L' = L0 ∧ b' = false ∧ ∀ s, s < m → ∀ c ∈ l, Calm m L' s c) ∨ (b' = true ∧ wt L' < wt L0)) ∧
      ∀ out, Ev (fun k => impl_residues.l2 k l L' b') out → Ev (fun k => impl_residues.l3 k l L b (m : Int) (r : Int)) out := by
  induction d with
  | zero =>
    intro r L b hd hr hT hs
    refine ⟨L, b, hT, by rwa [show r = m by omega] at hs, fun out h => Ev.step (fun k => ?_) h⟩
    rw [impl_residues.l3, if_neg (by omega)]
  | succ d ih =>
    intro r L b hd hr hT hs
    obtain ⟨L1, b1, g1, g2, g3⟩ := relax_in l hc m hm hm2 hc0 hl8 L0 (∀ s, s < r → ∀ c ∈ l, Calm m L0 s c) r (by omega) (m : Int) l.length 0 L b (by omega) (by omega) hT (by
      rcases hs with ⟨h1, h2, h3⟩ | h
      · subst h1; exact .inl ⟨rfl, h2, h3, fun c hcm => by simp at hcm⟩
      · exact .inr h)
    obtain ⟨L2, b2, k1, k2, k3⟩ := ih (r + 1) L1 b1 (by omega) (by omega) g1 (by
      rcases g2 with ⟨h1, h2, h3, h4⟩ | h
      · subst h1
        refine .inl ⟨rfl, h2, fun s hsr c hcm => ?_⟩
        by_cases e : s = r
        · subst e; exact h4 c hcm
        · exact h3 s (by omega) c hcm
      · exact .inr h)
    refine ⟨L2, b2, k1, k2, fun out h => Ev.step (fun k => ?_) (g3 out (k3 out h))⟩
    rw [impl_residues.l3, if_pos (by omega)]
    rfl
/-- All rounds. -/
theorem relax_all (hc0 : rd l 0 = (m : Int)) (hl8 : l.length ≤ 8) (n : Nat) : ∀ L, wt L ≤ n → Tab l m L → ∃ L', Tab l m L' ∧ (∀ r, r < m → ∀ c ∈ l, Calm m L' r c) ∧ Ev (fun k => impl_residues.l2 k l L true) (L', true) := by
  induction n using Nat.strongRecOn with
  | ind n ih =>
    intro L hn hT
    obtain ⟨L1, b1, g1, g2, g3⟩ := relax_round l hc m hm hm2 hc0 hl8 L m 0 L false (by omega) (by omega) hT (.inl ⟨rfl, rfl, fun s hs => by omega⟩)
    have step : ∀ out, Ev (fun k => impl_residues.l2 k l L1 b1) out → Ev (fun k => impl_residues.l2 k l L true) out := fun out h => by
      refine Ev.step (fun k => ?_) (g3 out h)
      rw [impl_residues.l2, if_pos rfl, hT.1]
      rfl
    rcases g2 with ⟨h1, h2, h3⟩ | ⟨h1, h2⟩
    · subst h1; subst h2
      exact ⟨L1, g1, h3, step _ (Ev.one fun k => by rw [impl_residues.l2, if_neg (by simp)])⟩
    · subst h1
      obtain ⟨L2, k1, k2, k3⟩ := ih (wt L1) (by omega) L1 (Nat.le_refl _) g1
      exact ⟨L2, k1, k2, step _ k3⟩
end
/-- The table at rest tells the least amounts. -/
theorem calm_least (l : List Int) (hc : ∀ x ∈ l, 1 ≤ x ∧ x ≤ 1000) (m : Nat) (hm : 0 < m) (L : List Int) (hT : Tab l m L) (hk : ∀ r, r < m → ∀ c ∈ l, Calm m L r c) (v : Nat) : Pd l v → L.getD (v % m) 0 ≤ (v : Int) := by
  induction v using Nat.strongRecOn with
  | ind v ih =>
    intro h
    by_cases hv : v = 0
    · subst hv
      have : L.getD 0 0 = 0 := hT.2.1
      rw [Nat.zero_mod, this]
      exact Int.le_refl _
    · obtain ⟨c, h1, h2, h3⟩ := Pd_sub l hc v h (by omega)
      have hb := hc c h1
      have hle := ih (v - c.toNat) (by omega) h3
      have hr : (v - c.toNat) % m < m := Nat.mod_lt _ hm
      have hcalm := hk _ hr c h1
      unfold Calm at hcalm
      rcases hT.2.2 _ hr with hf | ⟨u, e1, e2, e3, e4⟩
      · have := Tab_range l m L hT _ (Nat.mod_lt v hm)
        rw [hf] at hle
        omega
      · rw [e1] at hcalm hle
        have et : ((u : Int) + c).toNat = u + c.toNat := by omega
        have em : (u + c.toNat) % m = v % m := by rw [Nat.add_mod, e4, ← Nat.add_mod, Nat.sub_add_cancel h2]
        rw [et, em] at hcalm
        omega
/-- What the program's residues returns. -/
theorem residues_ev (l : List Int) (hl : l.length ≤ 35184372088832) : (coinsB l = false ∧ Ev (fun k => impl_residues.f k l) ([], false)) ∨ (coinsB l = true ∧ gcds 0 l ≠ 1 ∧ Ev (fun k => impl_residues.f k l) ([], false)) ∨
    (coinsB l = true ∧ gcds 0 l = 1 ∧ ∃ L, Tab l (l.getD 0 0).toNat L ∧ (∀ v, Pd l v → L.getD (v % (l.getD 0 0).toNat) 0 ≤ (v : Int)) ∧ Ev (fun k => impl_residues.f k l) (L, true)) := by
  unfold impl_residues.f
  cases hco : coinsB l with
  | false => exact .inl ⟨rfl, Ev.bind (AreCoins_ev l hl) (Ev.if_neg' (by simp [hco]) (Ev.now _))⟩
  | true =>
    refine .inr ?_
    have hc := coins_mem hco
    have hlen := coins_len hco
    have loop0 : ∀ out, Ev (fun k => impl_residues.l0 k l ((gcds 0 l : Nat) : Int) l (l.length : Int) ((l.length : Nat) : Int)) out → ∀ d i (a : Nat), l.length - i = d → i ≤ l.length → gcds a (l.drop i) = gcds 0 l → Ev (fun k => impl_residues.l0 k l (a : Int) l (l.length : Int) (i : Int)) out := by
      intro out h d
      induction d with
      | zero =>
        intro i a hd hi hg
        obtain rfl : i = l.length := by omega
        rw [List.drop_of_length_le (Nat.le_refl _)] at hg
        have : a = gcds 0 l := hg
        subst this
        exact h
      | succ d ih =>
        intro i a hd hi hg
        have hil : i < l.length := by omega
        have hci := hc l[i] (List.getElem_mem hil)
        rw [List.drop_eq_getElem_cons hil] at hg
        have h1 := ih (i + 1) (Nat.gcd a l[i].toNat) (by omega) (by omega) hg
        refine Ev.step (f := fun k => (impl_gcd.f k (a : Int) ((l[i].toNat : Nat) : Int)).bind fun t => impl_residues.l0 k l t l (l.length : Int) ((i + 1 : Nat) : Int)) (fun k => ?_) (Ev.bind (gcd_ev a l[i].toNat) h1)
        rw [impl_residues.l0, if_pos (by omega), if_pos (by omega), if_pos (by omega), rd_eq l i hil, w64 (by omega) (by omega), show ((l[i].toNat : Nat) : Int) = l[i] by omega]
        rfl
    have start : ∀ out, Ev (fun k => impl_residues.l0 k l ((gcds 0 l : Nat) : Int) l (l.length : Int) ((l.length : Nat) : Int)) out → Ev (fun k => (impl_AreCoins.f k l).bind fun t266 => (if t266 = true then (impl_residues.l0 k l 0 l (l.length : Int) 0) else (some (([] : List Int), false)))) out := fun out h =>
      Ev.bind (AreCoins_ev l hl) (Ev.if_pos' hco (loop0 out h l.length 0 0 (by omega) (by omega) (by simp)))
    by_cases hg : gcds 0 l = 1
    · refine .inr ⟨rfl, hg, ?_⟩
      have hl0 : 0 < l.length := by omega
      have hc0 := hc l[0] (List.getElem_mem hl0)
      have e0 : l.getD 0 0 = l[0] := by simp [List.getD, hl0]
      obtain ⟨m, hmm⟩ : ∃ m : Nat, l[0] = m := ⟨l[0].toNat, by omega⟩
      rw [e0, hmm, Int.toNat_natCast]
      have hrd : rd l 0 = (m : Int) := by rw [show (0 : Int) = ((0 : Nat) : Int) by rfl, rd_eq l 0 hl0, hmm]
      have hT0 : Tab l m ((List.replicate m far).set 0 0) := by
        refine ⟨by simp, ?_, fun r hr => ?_⟩
        · show ((List.replicate m far).set 0 0).getD 0 0 = 0
          simp only [List.getD]
          rw [List.getElem?_set_self (by simp; omega)]
          rfl
        · by_cases e : r = 0
          · subst e
            refine .inr ⟨0, ?_, by unfold far; omega, Pd_zero l, Nat.zero_mod m⟩
            simp only [List.getD]
            rw [List.getElem?_set_self (by simp; omega)]
            rfl
          · refine .inl ?_
            simp only [List.getD]
            rw [List.getElem?_set_ne (by omega), List.getElem?_replicate, if_pos hr]
            rfl
      obtain ⟨L, g1, g2, g3⟩ := relax_all l hc m (by omega) (by omega) hrd hlen.2 _ _ (Nat.le_refl _) hT0
      refine ⟨L, g1, fun v hv => calm_least l hc m (by omega) L g1 g2 v hv, start _ ?_⟩
      have fill : ∀ d i, m - i = d → i ≤ m → Ev (fun k => impl_residues.l1 k l (List.replicate i far ++ List.replicate (m - i) 0) (m : Int) (i : Int)) (L, true) := by
        intro d
        induction d with
        | zero =>
          intro i hd hi
          obtain rfl : i = m := by omega
          refine Ev.step (fun k => ?_) g3
          rw [impl_residues.l1, if_neg (by omega), Nat.sub_self, if_pos (by simp; omega)]
          simp
        | succ d ih =>
          intro i hd hi
          refine Ev.step (fun k => ?_) (ih (i + 1) (by omega) (by omega))
          rw [impl_residues.l1, if_pos (by omega), if_pos (by omega), if_pos (by simp; omega), w64 (by omega) (by omega), Int.toNat_natCast]
          have e : (List.replicate i far ++ List.replicate (m - i) 0).set i 1099511627776 = List.replicate (i + 1) far ++ List.replicate (m - (i + 1)) 0 := by
            rw [show m - i = (m - (i + 1)) + 1 by omega, List.replicate_succ, List.replicate_succ', List.append_assoc]
            have := set_at (List.replicate i far) 0 1099511627776 (List.replicate (m - (i + 1)) 0)
            rw [List.length_replicate] at this
            exact this
          rw [e]
          rfl
      have h1 := fill m 0 (by omega) (by omega)
      refine Ev.step (fun k => ?_) h1
      rw [impl_residues.l0, if_neg (by omega), hg, if_pos (by rfl), if_pos (by omega), hrd, if_pos (by omega), if_pos (by omega), Option.bind_some, Int.toNat_natCast, List.length_replicate]
      rfl
    · refine .inl ⟨rfl, hg, start _ (Ev.one fun k => ?_)⟩
      rw [impl_residues.l0, if_neg (by omega), if_neg (by omega)]

end Go.Proofs.Ytohghfeomocnlaa.Pure

/- Plain lemmas: the amounts without change: the reference's list of them, and what the program's table says of them. -/
namespace Go.Proofs.Ytohghfeomocnlaa.Pure
open Go.RowKit Go.Proofs.Ytohghfeomocnlaa.E Go.Proofs.YtohghfeomocnlaaW.PrintWords Go.Proofs.YtohghfeomocnlaaW.PrintLast

/-- No change for v. -/
def unp (l : List Int) (v : Nat) : Bool := (few l v).isNone
theorem unp_iff (l : List Int) (v : Nat) : unp l v = true ↔ ¬ Pd l v := by
  unfold unp Pd
  cases few l v <;> simp
/-- Those below n. -/
def unpL (l : List Int) (n : Nat) : List Int := ((List.range n).filter (unp l)).map (fun v : Nat => (v : Int))
theorem unpL_succ (l : List Int) (n : Nat) : unpL l (n + 1) = if unp l n = true then unpL l n ++ [(n : Int)] else unpL l n := by
  unfold unpL
  rw [List.range_succ, List.filter_append, List.map_append]
  cases h : unp l n <;> simp [h]
theorem unpL_length (l : List Int) (n : Nat) : (unpL l n).length ≤ n := by
  unfold unpL
  have := List.length_filter_le (unp l) (List.range n)
  simpa using this
theorem unpaid_loop (l : List Int) (B : Nat) (hB : B ≤ 1000000) (d : Nat) : ∀ i : Nat, B + 1 - i = d → i ≤ B + 1 →
    Ev (fun k => spec_cnUnpaid.l0 k (unpL l i) ((fewT l B).map encS) ((B + 1 : Nat) : Int) (i : Int)) (unpL l (B + 1)) := by
  induction d with
  | zero =>
    intro i hd hi
    obtain rfl : i = B + 1 := by omega
    exact Ev.one fun k => by rw [spec_cnUnpaid.l0, if_neg (by omega)]
  | succ d ih =>
    intro i hd hi
    have h := ih (i + 1) (by omega) (by omega)
    have hlen := unpL_length l i
    rw [unpL_succ] at h
    refine Ev.step (fun k => ?_) h
    rw [spec_cnUnpaid.l0, if_pos (by omega), if_pos (by omega), if_pos (by simp [fewT_length]; omega), tab_rd encS l B i (by omega), w64 (x := (i : Int) + 1) (by omega) (by omega)]
    unfold unp
    cases few l i with
    | none => rw [if_pos (by simp [encS]), if_pos (by omega), if_pos (by rfl)]; rfl
    | some n => rw [if_neg (by simp only [encS]; omega), if_neg (by simp)]; rfl
/-- The bound up to which the reference looks. -/
def top (l : List Int) : Nat := (l.getD (l.length - 1) 0).toNat
theorem top_le (l : List Int) (hr : risesB l = true) (h0 : 0 < l.length) : ∀ x ∈ l, x ≤ l.getD (l.length - 1) 0 := by
  induction l with
  | nil => simp at h0
  | cons a t ih =>
    intro x hx
    cases t with
    | nil => simp at hx; simp [hx]
    | cons b t =>
      rw [risesB, Bool.and_eq_true, decide_eq_true_eq] at hr
      have h := ih hr.2 (by simp)
      have hb := h b List.mem_cons_self
      have e : (a :: b :: t).getD ((a :: b :: t).length - 1) 0 = (b :: t).getD ((b :: t).length - 1) 0 := by simp
      rw [e]
      rcases List.mem_cons.1 hx with rfl | hx
      · omega
      · exact h x hx
theorem cnUnpaid_ev (l : List Int) (hco : coinsB l = true) : Ev (fun k => spec_cnUnpaid.f k l) (unpL l ((l.getD 0 0).toNat * top l + 1)) := by
  have hc := coins_mem hco
  have hlen := coins_len hco
  have h0 := hc l[0] (List.getElem_mem (by omega))
  have h1 := hc l[l.length - 1] (List.getElem_mem (by omega))
  have e0 : l.getD 0 0 = l[0] := by simp [List.getD, show 0 < l.length by omega]
  have e1 : l.getD (l.length - 1) 0 = l[l.length - 1] := by simp [List.getD, show l.length - 1 < l.length by omega]
  unfold spec_cnUnpaid.f top
  have w1 : wrap64 ((l.length : Int) - 1) = ((l.length - 1 : Nat) : Int) := by rw [w64 (by omega) (by omega)]; omega
  rw [w1, show rd l 0 = l.getD 0 0 from rfl, rd_nat, e0, e1]
  clear w1 e0 e1
  obtain ⟨a, ha⟩ : ∃ a : Nat, l[0] = a := ⟨l[0].toNat, by omega⟩
  obtain ⟨b, hb⟩ : ∃ b : Nat, l[l.length - 1] = b := ⟨l[l.length - 1].toNat, by omega⟩
  rw [ha] at h0
  rw [hb] at h1
  rw [ha, hb, Int.toNat_natCast, Int.toNat_natCast]
  have hab : a * b ≤ 1000 * 1000 := Nat.mul_le_mul (by omega) (by omega)
  have hm : (a : Int) * (b : Int) = ((a * b : Nat) : Int) := by push_cast; rfl
  rw [hm, w64 (x := ((a * b : Nat) : Int)) (by omega) (by omega)]
  refine Ev.if_pos' (by omega) (Ev.if_pos' (by omega) (Ev.if_pos' (by omega) (Ev.bind (cnFew_ev l hc (by omega) (a * b) (by omega)) ?_)))
  have := unpaid_loop l (a * b) (by omega) (a * b + 1) 0 (by omega) (by omega)
  rw [List.length_map, fewT_length]
  simpa [unpL] using this
/-- What the table at rest says: the least amounts, as numbers. -/
structure Least (l : List Int) (m : Nat) (L : List Int) (f : Nat → Nat) : Prop where
  len : L.length = m
  val : ∀ r, r < m → L.getD r 0 = (f r : Int)
  res : ∀ r, r < m → f r % m = r
  small : ∀ r, r < m → f r ≤ (m - 1) * top l
  unp_iff : ∀ v, unp l v = true ↔ v < f (v % m)
theorem least_of (l : List Int) (hco : coinsB l = true) (m : Nat) (hml : (m : Int) ∈ l) (hg : gcds 0 l = 1) (L : List Int) (hT : Tab l m L) (hle : ∀ v, Pd l v → L.getD (v % m) 0 ≤ (v : Int)) : ∃ f, Least l m L f := by
  have hc := coins_mem hco
  have hlen := coins_len hco
  have hmb := hc _ hml
  have hr : risesB l = true := by simp [coinsB] at hco; exact hco.2.2
  have hm : 0 < m := by omega
  have htop : ∀ x ∈ l, x.toNat ≤ top l := fun x hx => by have := top_le l hr (by omega) x hx; unfold top; omega
  have hl1 := hc (l.getD (l.length - 1) 0) (by simp [List.getD, show l.length - 1 < l.length by omega])
  have ht : top l ≤ 1000 := by unfold top; omega
  have key : ∀ r, r < m → ∃ v : Nat, L.getD r 0 = v ∧ Pd l v ∧ v % m = r ∧ v ≤ (m - 1) * top l := fun r hrm => by
    obtain ⟨u, hu1, hu2⟩ := Res_all l hc m hm hg r
    obtain ⟨w, hw1, hw2, hw3⟩ := Pd_small l hc m hm (top l) htop u hu1
    have hwr : w % m = r := by rw [hw2, hu2, Nat.mod_eq_of_lt hrm]
    have h1 := hle w hw1
    rw [hwr] at h1
    have hmul : (m - 1) * top l ≤ 1000 * 1000 := Nat.mul_le_mul (by omega) ht
    rcases hT.2.2 r hrm with h2 | ⟨v, h2, _, h3, h4⟩
    · rw [h2] at h1; unfold far at h1; omega
    · rw [h2] at h1
      exact ⟨v, h2, h3, h4, by omega⟩
  refine ⟨fun r => (L.getD r 0).toNat, hT.1, fun r hr => ?_, fun r hr => ?_, fun r hr => ?_, fun v => ?_⟩
  · obtain ⟨v, h1, _⟩ := key r hr; rw [h1]; rfl
  · obtain ⟨v, h1, _, h3, _⟩ := key r hr; simp only [h1, Int.toNat_natCast]; exact h3
  · obtain ⟨v, h1, _, _, h4⟩ := key r hr; simp only [h1, Int.toNat_natCast]; exact h4
  · obtain ⟨u, h1, h2, h3, _⟩ := key (v % m) (Nat.mod_lt _ hm)
    rw [unp_iff]
    simp only [h1, Int.toNat_natCast]
    constructor
    · intro hn
      apply Classical.byContradiction
      intro hlt
      have e1 := Nat.mod_add_div u m
      have e2 := Nat.mod_add_div v m
      have hd : u / m ≤ v / m := Nat.div_le_div_right (by omega)
      have e3 : u + (v / m - u / m) * m = v := by
        rw [Nat.sub_mul, Nat.mul_comm (v / m), Nat.mul_comm (u / m)]
        have := Nat.mul_le_mul_left m hd
        omega
      have hpm := Pd_add l hc m hml 0 (Pd_zero l)
      rw [Nat.zero_add, Int.toNat_natCast] at hpm
      have := Pd_sum l hc u h2 _ (Pd_mul l hc m hpm (v / m - u / m))
      rw [e3] at this
      exact hn this
    · intro hlt hp
      have := hle v hp
      rw [h1] at this
      omega

end Go.Proofs.Ytohghfeomocnlaa.Pure
