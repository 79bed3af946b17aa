/- Plain lemmas of several texts in one: Base, SumN, SumP, Within0, Piece0, Sign0, Both0, Side0, Make0. -/
import Derived.Test.YtobcoaafbekhaaaWWords
import Derived.Test.YtobcoaafbekhaaaWMore
import Derived.Test.YtobcoaafbekhaaaFbx1
import Derived.Test.YtobcoaafbekhaaaFbx2
import Derived.Test.YtobcoaafbekhaaaFbx4
import Derived.Test.YtobcoaafbekhaaaFbx5
import Derived.Test.YtobcoaafbekhaaaFbx3
import Derived.Test.YtobcoaafbekhaaaFbx6
import Derived.Test.YtobcoaafbekhaaaFbx7
/- Plain lemmas on the laws' own helpers: copying a list, comparing two lists. -/
namespace Go.Proofs.Ytobcoaafbekhaaa.Pure
open Go.RowKit Go.Proofs.Ytobcoaafbekhaaa.Fb Go.Proofs.YtobcoaafbekhaaaW.PrintWords Go.Proofs.YtobcoaafbekhaaaW.PrintLast

theorem Ev.eq {α : Type} {g f : Nat → Option α} {r : α} (h : ∀ k, g (k + 1) = f k) (k : Ev f r) : Ev g r := Ev.step h k
theorem Ev.pure' {α : Type} {g : Nat → Option α} {r : α} (h : ∀ k, g k = some r) : Ev g r := ⟨0, fun k _ => h k⟩
theorem Ev.one {α : Type} {g : Nat → Option α} {r : α} (h : ∀ k, g (k + 1) = some r) : Ev g r := Ev.step (f := fun _ => some r) h (Ev.now r)
theorem Ev.some_bind {α β : Type} {f : Nat → α → Option β} {a : α} {r : β} (h : Ev (fun n => f n a) r) : Ev (fun n => (some a).bind (f n)) r := h
theorem Ev.if_pos' {α : Type} {c : Prop} [Decidable c] {g f : Nat → Option α} {r : α} (hc : c) (h : Ev g r) : Ev (fun n => if c then g n else f n) r := by
  simpa only [if_pos hc] using h
theorem Ev.if_neg' {α : Type} {c : Prop} [Decidable c] {g f : Nat → Option α} {r : α} (hc : ¬ c) (h : Ev f r) : Ev (fun n => if c then g n else f n) r := by
  simpa only [if_neg hc] using h
theorem Ev.const_bind {α β : Type} {g : Option α} {f : Nat → α → Option β} {a : α} {r : β} (h : g = some a) (k : Ev (fun n => f n a) r) : Ev (fun n => g.bind (f n)) r := by
  simpa only [h, Option.bind_some] using k
/-- More rounds may be taken. -/
theorem Ev.le {α : Type} {g f : Nat → Option α} {r : α} (h : Ev g r) (hle : ∀ k, LeO (g k) (f k)) : Ev f r := by
  obtain ⟨K, hK⟩ := h
  exact ⟨K, fun k hk => hle k _ (hK k hk)⟩

theorem w64 {x : Int} (h0 : -9223372036854775808 ≤ x) (h1 : x ≤ 9223372036854775807) : wrap64 x = x := by unfold wrap64; omega
theorem rd_eq (l : List Int) (i : Nat) (h : i < l.length) : rd l (i : Int) = l[i] := by simp [rd, h]
theorem rd_nat (l : List Int) (i : Nat) : rd l (i : Int) = l.getD i 0 := rfl

theorem l1In_eq (a b c : Int) : spec_l1In.f a b c = some (decide (b ≤ a ∧ a ≤ c)) := by
  unfold spec_l1In.f
  by_cases h : a ≥ b <;> simp [h, ge_iff_le] <;> omega
theorem set_split (l : List Int) (i : Nat) (h : i < l.length) (v : Int) : l.set i v = l.take i ++ v :: l.drop (i + 1) := by
  rw [List.set_eq_take_append_cons_drop, if_pos h]

theorem toIntS_loop (l : List Int) (hl : l.length ≤ 35184372088832) (d : Nat) : ∀ (i : Nat) (acc : List Int), acc.length = l.length → l.length - i = d → i ≤ l.length → acc.take i = l.take i →
    Ev (fun k => laws_toIntS.l0 k l acc (i : Int)) l := by
  induction d with
  | zero =>
    intro i acc ha hd hi he
    have hil : i = l.length := by omega
    refine Ev.one fun k => ?_
    rw [laws_toIntS.l0, if_neg (by omega)]
    have := he; rw [hil] at this
    rw [List.take_length, ← ha, List.take_length] at this
    rw [this]
  | succ d ih =>
    intro i acc ha hd hi he
    refine Ev.step (f := fun k => laws_toIntS.l0 k l (acc.set i l[i]!) ((i + 1 : Nat) : Int)) (fun k => ?_) (ih (i + 1) _ (by simpa using ha) (by omega) (by omega) ?_)
    · rw [laws_toIntS.l0, if_pos (by omega), if_pos (by omega), if_pos (by omega), w64 (by omega) (by omega)]
      have : rd l (i : Int) = l[i]! := by rw [rd_eq l i (by omega), getElem!_pos l i (by omega)]
      rw [this]
      rfl
    · rw [getElem!_pos l i (by omega), List.take_succ_eq_append_getElem (by simp; omega), List.take_succ_eq_append_getElem (l := l) (by omega), List.take_set_of_le (by omega), he]
      simp
theorem toIntS_ev (l : List Int) (hl : l.length ≤ 35184372088832) : Ev (fun k => laws_toIntS.f k l) l := by
  unfold laws_toIntS.f
  refine Ev.if_pos' (by omega) (Ev.if_pos' (by omega) ?_)
  exact toIntS_loop l hl l.length 0 _ (by simp) (by omega) (by omega) (by simp)

theorem eqIntS_loop (a b : List Int) (hab : a.length = b.length) (hl : a.length ≤ 35184372088832) (d : Nat) : ∀ (i : Nat), a.length - i = d → i ≤ a.length →
    Ev (fun k => laws_eqIntS.l0 k a b (i : Int)) (decide (a.drop i = b.drop i)) := by
  induction d with
  | zero =>
    intro i hd hi
    refine Ev.one fun k => ?_
    rw [laws_eqIntS.l0, if_neg (by omega), List.drop_of_length_le (by omega), List.drop_of_length_le (by omega)]
    simp
  | succ d ih =>
    intro i hd hi
    have hi' : i < a.length := by omega
    have h := ih (i + 1) (by omega) (by omega)
    have hib : i < b.length := by omega
    rw [List.drop_eq_getElem_cons hi', List.drop_eq_getElem_cons hib]
    by_cases he : a[i] = b[i]
    · refine Ev.step (f := fun k => laws_eqIntS.l0 k a b ((i + 1 : Nat) : Int)) (fun k => ?_) (by simp only [he, List.cons.injEq, true_and]; exact h)
      rw [laws_eqIntS.l0, if_pos (by omega), if_pos (by omega), if_pos (by omega), if_pos (by rw [rd_eq a i hi', rd_eq b i hib, he]), w64 (by omega) (by omega)]
      rfl
    · refine Ev.one fun k => ?_
      rw [laws_eqIntS.l0, if_pos (by omega), if_pos (by omega), if_pos (by omega), if_neg (by rw [rd_eq a i hi', rd_eq b i hib]; exact he)]
      rw [decide_eq_false (fun e => he (List.cons.inj e).1)]
theorem eqIntS_ev (a b : List Int) (hl : a.length ≤ 35184372088832) : Ev (fun k => laws_eqIntS.f k a b) (decide (a = b)) := by
  unfold laws_eqIntS.f
  by_cases h : a.length = b.length
  · refine Ev.if_pos' (by omega) ?_
    simpa using eqIntS_loop a b h hl a.length 0 (by omega) (by omega)
  · refine Ev.if_neg' (by omega) ?_
    rw [decide_eq_false (fun e => h (by rw [e]))]
    exact Ev.now _
theorem eqIntS_self (a : List Int) (hl : a.length ≤ 35184372088832) : Ev (fun k => laws_eqIntS.f k a a) true := by
  simpa using eqIntS_ev a a hl

end Go.Proofs.Ytobcoaafbekhaaa.Pure

/- Plain lemmas: bounds of a sum. -/
namespace Go.Proofs.Ytobcoaafbekhaaa.Pure
open Go.RowKit Go.Proofs.Ytobcoaafbekhaaa.Fb Go.Proofs.YtobcoaafbekhaaaW.PrintWords Go.Proofs.YtobcoaafbekhaaaW.PrintLast

theorem sum_nonneg (l : List Int) (hb : ∀ x ∈ l, 0 ≤ x) : 0 ≤ l.sum := by
  induction l with
  | nil => simp
  | cons a t ih => have := hb a List.mem_cons_self; have := ih (fun x hx => hb x (List.mem_cons_of_mem _ hx)); simp only [List.sum_cons]; omega
theorem sum_le (M : Int) (l : List Int) (hb : ∀ x ∈ l, x ≤ M) : l.sum ≤ M * l.length := by
  induction l with
  | nil => simp
  | cons a t ih =>
    have h1 := hb a List.mem_cons_self
    have h2 := ih (fun x hx => hb x (List.mem_cons_of_mem _ hx))
    have e : M * ((a :: t).length : Int) = M * (t.length : Int) + M := by rw [List.length_cons]; push_cast; rw [Int.mul_add, Int.mul_one]
    rw [List.sum_cons, e]
    omega

end Go.Proofs.Ytobcoaafbekhaaa.Pure

/- Plain lemmas: the sum of a list, by the reference. -/
namespace Go.Proofs.Ytobcoaafbekhaaa.Pure
open Go.RowKit Go.Proofs.Ytobcoaafbekhaaa.Fb Go.Proofs.YtobcoaafbekhaaaW.PrintWords Go.Proofs.YtobcoaafbekhaaaW.PrintLast

theorem piSum_loop (l : List Int) (hl : l.length ≤ 35184372088832) (hb : ∀ x ∈ l, 0 ≤ x) (hs : l.sum ≤ 9223372036854775807) (d : Nat) : ∀ i : Nat, l.length - i = d → i ≤ l.length →
    Ev (fun k => spec_piSum.l0 k (l.take i).sum l (l.length : Int) (i : Int)) l.sum := by
  induction d with
  | zero =>
    intro i hd hi
    refine Ev.one fun k => ?_
    rw [spec_piSum.l0, if_neg (by omega), List.take_of_length_le (by omega)]
  | succ d ih =>
    intro i hd hi
    have hil : i < l.length := by omega
    have e : (l.take (i + 1)).sum = (l.take i).sum + l[i] := by rw [List.take_succ_eq_append_getElem hil, List.sum_append]; simp
    have h1 := sum_nonneg (l.take i) (fun x hx => hb x (List.mem_of_mem_take hx))
    have h2 := sum_nonneg (l.drop (i + 1)) (fun x hx => hb x (List.mem_of_mem_drop hx))
    have h3 : (l.take (i + 1)).sum + (l.drop (i + 1)).sum = l.sum := by rw [← List.sum_append, List.take_append_drop]
    have h4 := hb l[i] (List.getElem_mem hil)
    refine Ev.step (fun k => ?_) (ih (i + 1) (by omega) (by omega))
    rw [spec_piSum.l0, if_pos (by omega), if_pos (by omega), if_pos (by omega), rd_eq l i hil, w64 (by omega) (by omega), w64 (by omega) (by omega), e]
    rfl
theorem piSum_ev (l : List Int) (hl : l.length ≤ 35184372088832) (hb : ∀ x ∈ l, 0 ≤ x) (hs : l.sum ≤ 9223372036854775807) : Ev (fun k => spec_piSum.f k l) l.sum := by
  unfold spec_piSum.f
  exact piSum_loop l hl hb hs l.length 0 (by omega) (by omega)

end Go.Proofs.Ytobcoaafbekhaaa.Pure

/- Plain lemma: the program's test of a number between bounds. -/
namespace Go.Proofs.Ytobcoaafbekhaaa.Pure
open Go.RowKit Go.Proofs.Ytobcoaafbekhaaa.Fb Go.Proofs.YtobcoaafbekhaaaW.PrintWords Go.Proofs.YtobcoaafbekhaaaW.PrintLast

theorem within_eq (a b c : Int) : impl_within.f a b c = some (decide (b ≤ a ∧ a ≤ c)) := by
  unfold impl_within.f
  by_cases h : b ≤ a <;> simp [h]


end Go.Proofs.Ytobcoaafbekhaaa.Pure

/- Plain lemmas: which lists are pieces, by the program and by the reference; the tables of ways; searching an increasing list. -/
namespace Go.Proofs.Ytobcoaafbekhaaa.Pure
open Go.RowKit Go.Proofs.Ytobcoaafbekhaaa.Fb Go.Proofs.YtobcoaafbekhaaaW.PrintWords Go.Proofs.YtobcoaafbekhaaaW.PrintLast

def inB (lo hi : Int) (l : List Int) : Bool := l.all fun x => decide (lo ≤ x) && decide (x ≤ hi)
theorem inB_cons (lo hi a : Int) (t : List Int) : inB lo hi (a :: t) = (decide (lo ≤ a ∧ a ≤ hi) && inB lo hi t) := by simp [inB]
theorem areWithin_eq (l : List Int) (lo hi : Int) (hl : l.length ≤ 35184372088832) : impl_areWithin.f l lo hi = some (inB lo hi l) := by
  unfold impl_areWithin.f
  rw [if_pos (by omega)]
  rfl
theorem l1All_loop (l : List Int) (lo hi : Int) (hl : l.length ≤ 35184372088832) (d : Nat) : ∀ i : Nat, l.length - i = d → i ≤ l.length →
    Ev (fun k => spec_l1All.l0 k lo hi l (l.length : Int) (i : Int)) (inB lo hi (l.drop i)) := by
  induction d with
  | zero =>
    intro i hd hi'
    rw [List.drop_of_length_le (by omega)]
    exact Ev.one fun k => by rw [spec_l1All.l0, if_neg (by omega)]; rfl
  | succ d ih =>
    intro i hd hi'
    have hil : i < l.length := by omega
    rw [List.drop_eq_getElem_cons hil, inB_cons]
    by_cases hb : lo ≤ l[i] ∧ l[i] ≤ hi
    · rw [decide_eq_true hb, Bool.true_and]
      refine Ev.step (fun k => ?_) (ih (i + 1) (by omega) (by omega))
      rw [spec_l1All.l0, if_pos (by omega), if_pos (by omega), if_pos (by omega), rd_eq l i hil, l1In_eq, decide_eq_true hb, Option.bind_some, if_pos rfl, w64 (by omega) (by omega)]
      rfl
    · rw [decide_eq_false hb, Bool.false_and]
      refine Ev.one fun k => ?_
      rw [spec_l1All.l0, if_pos (by omega), if_pos (by omega), if_pos (by omega), rd_eq l i hil, l1In_eq, decide_eq_false hb, Option.bind_some, if_neg (by simp)]
theorem l1All_ev (l : List Int) (lo hi : Int) (hl : l.length ≤ 35184372088832) : Ev (fun k => spec_l1All.f k l lo hi) (inB lo hi l) := by
  unfold spec_l1All.f
  exact l1All_loop l lo hi hl l.length 0 (by omega) (by omega)

def Asc (l : List Int) (j : Nat) : Prop := l.getD j 0 ≤ l.getD (j + 1) 0
instance (l : List Int) (j : Nat) : Decidable (Asc l j) := by unfold Asc; infer_instance
def sortB (l : List Int) : Bool := decide (∀ j, j < l.length - 1 → Asc l j)

theorem piGood_loop (l : List Int) (hl : l.length ≤ 35184372088832) (d : Nat) : ∀ i : Nat, l.length - i = d → 1 ≤ i → i ≤ 35184372088833 →
    Ev (fun k => spec_piGood.l0 k l (i : Int)) (decide (∀ j, j < l.length - 1 → i - 1 ≤ j → Asc l j)) := by
  induction d with
  | zero =>
    intro i hd h1 hi
    rw [decide_eq_true (fun j hj hj' => by omega)]
    exact Ev.one fun k => by rw [spec_piGood.l0, if_neg (by omega)]
  | succ d ih =>
    intro i hd h1 hi
    have hil : i < l.length := by omega
    have e1 : wrap64 ((i : Int) - 1) = ((i - 1 : Nat) : Int) := by rw [w64 (by omega) (by omega)]; omega
    by_cases hc : l.getD (i - 1) 0 ≤ l.getD i 0
    · have h := ih (i + 1) (by omega) (by omega) (by omega)
      have e : decide (∀ j, j < l.length - 1 → i + 1 - 1 ≤ j → Asc l j) = decide (∀ j, j < l.length - 1 → i - 1 ≤ j → Asc l j) := by
        refine decide_eq_decide.2 ⟨fun h j hj hj' => ?_, fun h j hj hj' => h j hj (by omega)⟩
        by_cases ej : j = i - 1
        · subst ej; unfold Asc; rw [show i - 1 + 1 = i by omega]; exact hc
        · exact h j hj (by omega)
      rw [e] at h
      refine Ev.step (fun k => ?_) h
      rw [spec_piGood.l0, if_pos (by omega), e1, if_pos (by omega), if_pos (by omega), if_pos (by omega), rd_nat, rd_nat, if_neg (by omega), w64 (by omega) (by omega)]
      rfl
    · rw [decide_eq_false (fun h => hc (by have := h (i - 1) (by omega) (by omega); unfold Asc at this; rwa [show i - 1 + 1 = i by omega] at this))]
      refine Ev.one fun k => ?_
      rw [spec_piGood.l0, if_pos (by omega), e1, if_pos (by omega), if_pos (by omega), if_pos (by omega), rd_nat, rd_nat, if_pos (by omega)]
def piecesB (l : List Int) : Bool := decide (l.length ≤ 20) && (inB 1 10000 l && sortB l)
theorem piGood_ev (l : List Int) (hl : l.length ≤ 35184372088832) : Ev (fun k => spec_piGood.f k l) (piecesB l) := by
  unfold spec_piGood.f piecesB
  by_cases h : l.length ≤ 20
  · rw [decide_eq_true h, Bool.true_and]
    refine Ev.if_neg' (by omega) (Ev.bind (l1All_ev l 1 10000 hl) ?_)
    cases inB 1 10000 l with
    | false => exact Ev.one fun k => by rw [spec_piGood.j0, if_pos (by simp)]; rfl
    | true =>
      refine Ev.step (fun k => by rw [spec_piGood.j0, if_neg (by simp)]) ?_
      have := piGood_loop l hl (l.length - 1) 1 rfl (by omega) (by omega)
      simpa [sortB] using this
  · rw [decide_eq_false h, Bool.false_and]
    refine Ev.if_pos' (by omega) ?_
    exact Ev.one fun k => by rw [spec_piGood.j0, if_pos (by simp)]
theorem less_eq (a b : Int) : cmp_Less_int.f a b = some (decide (a < b)) := by
  unfold cmp_Less_int.f cmp_isNaN_int.f
  simp
theorem sorted_loop (l : List Int) (hl : l.length ≤ 35184372088832) (i : Nat) : i ≤ l.length - 1 →
    Ev (fun k => slices_IsSorted_int_int.l0 k l (i : Int)) (decide (∀ j, j < i → Asc l j)) := by
  induction i with
  | zero =>
    intro _
    rw [decide_eq_true (fun j hj => by omega)]
    exact Ev.one fun k => by rw [slices_IsSorted_int_int.l0, if_neg (by omega)]
  | succ i ih =>
    intro hi
    have e1 : wrap64 (((i + 1 : Nat) : Int) - 1) = (i : Int) := by rw [w64 (by omega) (by omega)]; omega
    by_cases hc : Asc l i
    · have e : decide (∀ j, j < i → Asc l j) = decide (∀ j, j < i + 1 → Asc l j) := by
        refine decide_eq_decide.2 ⟨fun h j hj => ?_, fun h j hj => h j (by omega)⟩
        by_cases ej : j = i
        · rw [ej]; exact hc
        · exact h j (by omega)
      have h := ih (by omega)
      rw [e] at h
      refine Ev.step (fun k => ?_) h
      unfold Asc at hc
      rw [slices_IsSorted_int_int.l0, if_pos (by omega), if_pos (by omega), if_pos (by omega), e1, if_pos (by omega), if_pos (by omega), less_eq, rd_nat, rd_nat, decide_eq_false (by omega), Option.bind_some, if_neg (by simp)]
    · rw [decide_eq_false (fun h => hc (h i (by omega)))]
      refine Ev.one fun k => ?_
      unfold Asc at hc
      rw [slices_IsSorted_int_int.l0, if_pos (by omega), if_pos (by omega), if_pos (by omega), e1, if_pos (by omega), if_pos (by omega), less_eq, rd_nat, rd_nat, decide_eq_true (by omega), Option.bind_some, if_pos rfl]
theorem sorted_ev (l : List Int) (hl : l.length ≤ 35184372088832) : Ev (fun k => slices_IsSorted_int_int.f k l) (sortB l) := by
  unfold slices_IsSorted_int_int.f sortB
  cases l with
  | nil => exact Ev.one fun k => by rw [slices_IsSorted_int_int.l0, if_neg (by rw [w64 (by simp) (by simp)]; simp)]; rfl
  | cons a t =>
    have e : wrap64 (((a :: t).length : Int) - 1) = (((a :: t).length - 1 : Nat) : Int) := by rw [w64 (by omega) (by omega)]; simp
    rw [e]
    exact sorted_loop (a :: t) hl ((a :: t).length - 1) (by omega)
theorem ArePieces_ev (l : List Int) (hl : l.length ≤ 35184372088832) : Ev (fun k => impl_ArePieces.f k l) (piecesB l) := by
  unfold impl_ArePieces.f piecesB
  by_cases h : l.length ≤ 20
  · rw [decide_eq_true h, Bool.true_and]
    refine Ev.if_pos' (by omega) (Ev.const_bind (areWithin_eq l 1 10000 hl) ?_)
    cases inB 1 10000 l with
    | false => exact Ev.if_neg' (by simp) (Ev.now _)
    | true => exact Ev.if_pos' rfl (Ev.bind (sorted_ev l hl) (Ev.now _))
  · rw [decide_eq_false h, Bool.false_and]
    exact Ev.if_neg' (by omega) (Ev.now _)
theorem pieces_len {l : List Int} (h : piecesB l = true) : l.length ≤ 20 := by simp [piecesB] at h; exact h.1
theorem pieces_mem {l : List Int} (h : piecesB l = true) : ∀ x ∈ l, 1 ≤ x ∧ x ≤ 10000 := by
  simp [piecesB, inB] at h; exact h.2.1
theorem pieces_sum {l : List Int} (h : piecesB l = true) : 0 ≤ l.sum ∧ l.sum ≤ 200000 := by
  have h1 := pieces_mem h
  have h2 := pieces_len h
  have h3 := sum_nonneg l (fun x hx => by have := h1 x hx; omega)
  have h4 := sum_le 10000 l (fun x hx => (h1 x hx).2)
  omega

end Go.Proofs.Ytobcoaafbekhaaa.Pure

/- Plain lemmas: how many signs of pieces have a value; the reference's table of them, and the program's table of the values that there are. -/
namespace Go.Proofs.Ytobcoaafbekhaaa.Pure
open Go.RowKit Go.Proofs.Ytobcoaafbekhaaa.Fb Go.Proofs.YtobcoaafbekhaaaW.PrintWords Go.Proofs.YtobcoaafbekhaaaW.PrintLast

/-- One piece more: left, added or subtracted. -/
def stepW (p : Int) (f : Int → Nat) (v : Int) : Nat := f v + f (v - p) + f (v + p)
/-- How many signs have a value. -/
def W : List Int → Int → Nat
  | [], v => if v = 0 then 1 else 0
  | p :: t, v => stepW p (W t) v
theorem W_le (q : List Int) : ∀ v, W q v ≤ 3 ^ q.length := by
  induction q with
  | nil => intro v; unfold W; split <;> simp
  | cons p t ih =>
    intro v
    have h1 := ih v; have h2 := ih (v - p); have h3 := ih (v + p)
    rw [W, stepW, List.length_cons, Nat.pow_succ]
    omega
theorem W_far (q : List Int) (hq : ∀ x ∈ q, 0 ≤ x) : ∀ v, (q.sum < v ∨ v < - q.sum) → W q v = 0 := by
  induction q with
  | nil => intro v h; unfold W; rw [if_neg (by simp at h; omega)]
  | cons p t ih =>
    intro v h
    have hp := hq p List.mem_cons_self
    have ht : ∀ x ∈ t, 0 ≤ x := fun x hx => hq x (List.mem_cons_of_mem _ hx)
    rw [List.sum_cons] at h
    rw [W, stepW, ih ht v (by omega), ih ht (v - p) (by omega), ih ht (v + p) (by omega)]
/-- A function of the values from -S to S, as a list. -/
def tabI {α : Type} (f : Int → α) (S : Nat) : List α := (List.range (2 * S + 1)).map fun i : Nat => f ((i : Int) - S)
theorem tabI_length {α : Type} (f : Int → α) (S : Nat) : (tabI f S).length = 2 * S + 1 := by simp [tabI]
theorem tabI_get {α : Type} (f : Int → α) (S i : Nat) (d : α) (h : i < 2 * S + 1) : (tabI f S).getD i d = f ((i : Int) - S) := by
  simp [tabI, List.getD, List.getElem?_range h]
theorem tabI_set {α : Type} (f : Int → α) (S i : Nat) (x : α) : (tabI f S).set i x = tabI (fun v => if v = (i : Int) - S then x else f v) S := by
  refine List.ext_getElem (by simp [tabI]) fun j h1 h2 => ?_
  rw [List.getElem_set]
  simp only [tabI, List.getElem_map, List.getElem_range]
  by_cases e : i = j
  · subst e; rw [if_pos rfl, if_pos rfl]
  · rw [if_neg e, if_neg (by omega)]
theorem tabI_congr {α : Type} (f g : Int → α) (S : Nat) (h : ∀ v : Int, -(S : Int) ≤ v → v ≤ S → f v = g v) : tabI f S = tabI g S := by
  unfold tabI
  exact List.map_congr_left fun i hi => by have := List.mem_range.1 hi; exact h _ (by omega) (by omega)
theorem rd_tabI (f : Int → Nat) (S i : Nat) (h : i < 2 * S + 1) : rd (tabI (fun v => (f v : Int)) S) (i : Int) = (f ((i : Int) - S) : Int) := by
  rw [rd_nat, tabI_get _ _ _ _ h]
/-- A function below a value; zero from there on. -/
def low (f : Int → Nat) (a v : Int) : Nat := if v < a then f v else 0
theorem low_up (f : Int → Nat) (a v : Int) : low f (a + 1) v = low f a v + if v = a then f a else 0 := by
  unfold low
  by_cases h : v = a
  · subst h; rw [if_pos (by omega), if_neg (by omega), if_pos rfl]; omega
  · by_cases h2 : v < a
    · rw [if_pos (by omega), if_pos h2, if_neg h]; omega
    · rw [if_neg (by omega), if_neg h2, if_neg h]
theorem ways_in (l : List Int) (len : Int) (i : Nat) (hi8 : i ≤ 100) (S : Nat) (hS2 : S ≤ 200000) (Wf : Int → Nat) (p : Nat) (hb : ∀ v, Wf v ≤ 3486784401) (hfar : ∀ v, 0 < Wf v → -(S : Int) ≤ v - p ∧ v + p ≤ S ∧ 1 ≤ p) (r : List Int) (h : Ev (fun k => spec_siWays.l0 k (S : Int) (tabI (fun v => (stepW p Wf v : Int)) S) l len ((i + 1 : Nat) : Int)) r) (d : Nat) : ∀ a : Nat, 2 * S + 1 - a = d → a ≤ 2 * S + 1 →
    Ev (fun k => spec_siWays.l1 k (S : Int) (p : Int) (tabI (fun v => (stepW p (low Wf ((a : Int) - S)) v : Int)) S) l len (i : Int) (tabI (fun v => (Wf v : Int)) S) ((2 * S + 1 : Nat) : Int) (a : Int)) r := by
  induction d with
  | zero =>
    intro a hd ha
    obtain rfl : a = 2 * S + 1 := by omega
    refine Ev.step (fun k => ?_) h
    have e : tabI (fun v => (stepW p (low Wf (((2 * S + 1 : Nat) : Int) - S)) v : Int)) S = tabI (fun v => (stepW p Wf v : Int)) S := by
      refine tabI_congr _ _ _ fun v h1 h2 => ?_
      have hz : ∀ u, low Wf (((2 * S + 1 : Nat) : Int) - S) u = Wf u := fun u => by
        unfold low
        by_cases hu : u < ((2 * S + 1 : Nat) : Int) - S
        · rw [if_pos hu]
        · rw [if_neg hu]
          cases hw : Wf u with
          | zero => rfl
          | succ n => have := hfar u (by omega); omega
      unfold stepW
      rw [hz, hz, hz]
    rw [e, spec_siWays.l1, if_neg (by omega), w64 (by omega) (by omega)]
    rfl
  | succ d ih =>
    intro a hd ha
    have h1 := ih (a + 1) (by omega) (by omega)
    refine Ev.step (fun k => ?_) h1
    have hk := hb ((a : Int) - S)
    have hlo : ∀ u, low Wf ((a : Int) - S) u ≤ 3486784401 := fun u => by unfold low; split; exact hb u; omega
    have hst : ∀ u, stepW (p : Int) (low Wf ((a : Int) - S)) u ≤ 10460353203 := fun u => by
      have := hlo u; have := hlo (u - (p : Int)); have := hlo (u + (p : Int)); unfold stepW; omega
    rw [spec_siWays.l1, if_pos (by omega), if_pos (by omega), if_pos (by rw [tabI_length]; omega), rd_tabI _ _ _ (by omega)]
    cases hw : Wf ((a : Int) - S) with
    | zero =>
      rw [if_neg (by omega), w64 (x := (a : Int) + 1) (by omega) (by omega)]
      have e : tabI (fun v => (stepW (p : Int) (low Wf (((a + 1 : Nat) : Int) - S)) v : Int)) S = tabI (fun v => (stepW (p : Int) (low Wf ((a : Int) - S)) v : Int)) S := by
        refine tabI_congr _ _ _ fun v _ _ => ?_
        have hz : ∀ u, low Wf (((a + 1 : Nat) : Int) - S) u = low Wf ((a : Int) - S) u := fun u => by
          rw [show ((a + 1 : Nat) : Int) - S = ((a : Int) - S) + 1 by omega, low_up, hw]; simp
        unfold stepW
        rw [hz, hz, hz]
      rw [e]
      rfl
    | succ n =>
      have hfa := hfar ((a : Int) - S) (by omega)
      have hK : Wf ((a : Int) - S) ≤ 3486784401 := hb _
      rw [hw] at hK
      have i2 : wrap64 ((a : Int) + (p : Int)) = ((a + p : Nat) : Int) := by rw [w64 (by omega) (by omega)]; rfl
      have i3 : wrap64 ((a : Int) - (p : Int)) = ((a - p : Nat) : Int) := by rw [w64 (by omega) (by omega)]; omega
      have i4 : wrap64 ((a : Int) + 1) = ((a + 1 : Nat) : Int) := by rw [w64 (by omega) (by omega)]; rfl
      rw [i2, i3, i4]
      clear i2 i3 i4
      have hL : ∀ f : Int → Int, (tabI f S).length = 2 * S + 1 := fun f => tabI_length f S
      have hR : ∀ (f : Int → Int) (j : Nat), j < 2 * S + 1 → rd (tabI f S) (j : Int) = f ((j : Int) - S) := fun f j hj => by rw [rd_nat, tabI_get _ _ _ _ hj]
      rw [if_pos (by omega), if_pos (by rw [hL]; omega), hR _ _ (by omega), Option.bind_some, if_pos (by omega), if_pos (by rw [hL]; omega), Int.toNat_natCast, tabI_set, hR _ _ (by omega), Option.bind_some, if_pos (by omega), if_pos (by rw [hL]; omega), Int.toNat_natCast, tabI_set, hR _ _ (by omega), Int.toNat_natCast, tabI_set]
      refine congrArg (fun T => spec_siWays.l1 k (S : Int) (p : Int) T l len (i : Int) (tabI (fun v => (Wf v : Int)) S) ((2 * S + 1 : Nat) : Int) ((a + 1 : Nat) : Int)) (tabI_congr _ _ _ fun v hv1 hv2 => ?_)
      have eA : ((a + 1 : Nat) : Int) - S = ((a : Int) - S) + 1 := by omega
      have eP : ((a + p : Nat) : Int) - S = (a : Int) - S + p := by omega
      have eM : ((a - p : Nat) : Int) - S = (a : Int) - S - p := by omega
      rw [eA, eP, eM]
      clear eA eP eM
      have hp1 : (1 : Int) ≤ p := by omega
      generalize (a : Int) - S = A at *
      have hr : ∀ v, stepW p (low Wf (A + 1)) v = stepW p (low Wf A) v + ((if v = A then n + 1 else 0) + (if v - p = A then n + 1 else 0) + (if v + p = A then n + 1 else 0)) := fun v => by
        clear h1 ih hK hk hlo hst
        unfold stepW
        rw [low_up, low_up, low_up, hw]
        generalize low Wf A v = x1
        generalize low Wf A (v - p) = x2
        generalize low Wf A (v + p) = x3
        generalize (if v = A then n + 1 else 0) = x4
        generalize (if v - p = A then n + 1 else 0) = x5
        generalize (if v + p = A then n + 1 else 0) = x6
        omega
      rw [hr]
      have w : ∀ u, wrap64 ((stepW p (low Wf A) u : Int) + ((n + 1 : Nat) : Int)) = (stepW p (low Wf A) u : Int) + ((n + 1 : Nat) : Int) := fun u => by
        have := hst u
        rw [w64 (by omega) (by omega)]
      have n1 : ¬ (A + (p : Int) = A) := by omega
      have n2 : ¬ (A - (p : Int) = A + p) := by omega
      have n3 : ¬ (A - (p : Int) = A) := by omega
      simp only [n1, n2, n3, if_false, w]
      by_cases c1 : v = A - p
      · subst c1
        rw [if_pos rfl, if_neg n3, if_neg (show ¬ (A - (p : Int) - p = A) by omega), if_pos (show A - (p : Int) + p = A by omega)]
        push_cast; omega
      · rw [if_neg c1]
        by_cases c2 : v = A + p
        · subst c2
          rw [if_pos rfl, if_neg n1, if_pos (show A + (p : Int) - p = A by omega), if_neg (show ¬ (A + (p : Int) + p = A) by omega)]
          push_cast; omega
        · rw [if_neg c2]
          by_cases c3 : v = A
          · subst c3
            rw [if_pos rfl, if_pos rfl, if_neg (show ¬ (v - (p : Int) = v) by omega), if_neg n1]
            push_cast; omega
          · rw [if_neg c3, if_neg c3, if_neg (show ¬ (v - (p : Int) = A) by omega), if_neg (show ¬ (v + (p : Int) = A) by omega)]
            push_cast; omega
section
variable (l : List Int) (hl : l.length ≤ 20) (hc : ∀ x ∈ l, 1 ≤ x ∧ x ≤ 10000) (S : Nat) (hS : l.sum = (S : Int)) (hS2 : S ≤ 200000)
include hc hS
/-- Where the signs of some of the pieces have a value, one piece more stays within the table. -/
theorem take_far (i : Nat) (hi : i < l.length) (v : Int) (h : 0 < W (l.take i).reverse v) : -(S : Int) ≤ v - l[i] ∧ v + l[i] ≤ S ∧ 1 ≤ l[i] := by
  have hci := hc l[i] (List.getElem_mem hi)
  have h1 : ((l.take i).reverse).sum = (l.take i).sum := List.sum_reverse _
  have h2 : l.sum = (l.take i).sum + (l.drop i).sum := by rw [← List.sum_append, List.take_append_drop]
  have h3 : (l.drop i).sum = l[i] + (l.drop (i + 1)).sum := by rw [List.drop_eq_getElem_cons hi, List.sum_cons]
  have h4 := sum_nonneg (l.drop (i + 1)) (fun x hx => by have := hc x (List.mem_of_mem_drop hx); omega)
  have hf : ¬ (((l.take i).reverse).sum < v ∨ v < - ((l.take i).reverse).sum) := fun hh => by
    have := W_far (l.take i).reverse (fun x hx => by have := hc x (List.mem_of_mem_take (List.mem_reverse.1 hx)); omega) v hh
    omega
  omega
include hl hS2 in
theorem ways_out (d : Nat) : ∀ i : Nat, l.length - i = d → i ≤ l.length →
    Ev (fun k => spec_siWays.l0 k (S : Int) (tabI (fun v => (W (l.take i).reverse v : Int)) S) l (l.length : Int) (i : Int)) (tabI (fun v => (W l.reverse v : Int)) S) := by
  induction d with
  | zero =>
    intro i hd hi
    refine Ev.one fun k => ?_
    rw [spec_siWays.l0, if_neg (by omega), List.take_of_length_le (by omega)]
  | succ d ih =>
    intro i hd hi
    have hil : i < l.length := by omega
    have hci := hc l[i] (List.getElem_mem hil)
    obtain ⟨p, hp⟩ : ∃ p : Nat, l[i] = p := ⟨l[i].toNat, by omega⟩
    have htk : (l.take (i + 1)).reverse = (p : Int) :: (l.take i).reverse := by rw [List.take_succ_eq_append_getElem hil, List.reverse_append, hp]; rfl
    have ih1 := ih (i + 1) (by omega) (by omega)
    rw [htk] at ih1
    have hfar : ∀ v, 0 < W (l.take i).reverse v → -(S : Int) ≤ v - p ∧ v + p ≤ S ∧ 1 ≤ p := fun v hv => by
      have := take_far l hc S hS i hil v hv
      rw [hp] at this
      omega
    have hb : ∀ v, W (l.take i).reverse v ≤ 3486784401 := fun v => Nat.le_trans (W_le _ v) (show 3 ^ _ ≤ 3 ^ 20 from Nat.pow_le_pow_right (by omega) (by rw [List.length_reverse, List.length_take]; omega))
    have h1 := ways_in l (l.length : Int) i (by omega) S hS2 (W (l.take i).reverse) p hb hfar _ ih1 (2 * S + 1) 0 (by omega) (by omega)
    clear ih ih1 hb
    have e : tabI (fun v => (stepW p (low (W (l.take i).reverse) (((0 : Nat) : Int) - S)) v : Int)) S = List.replicate (2 * S + 1) 0 := by
      have hz : tabI (fun v => (stepW p (low (W (l.take i).reverse) (((0 : Nat) : Int) - S)) v : Int)) S = tabI (fun _ => (0 : Int)) S := by
        refine tabI_congr _ _ _ fun v h3 h4 => ?_
        have hz : ∀ u, low (W (l.take i).reverse) (((0 : Nat) : Int) - S) u = 0 := fun u => by
          unfold low
          by_cases hu : u < ((0 : Nat) : Int) - S
          · rw [if_pos hu]
            cases hw : W (l.take i).reverse u with
            | zero => rfl
            | succ n => have := hfar u (by omega); omega
          · rw [if_neg hu]
        unfold stepW
        rw [hz, hz, hz]; rfl
      rw [hz]
      simp [tabI, List.map_const']
    rw [e] at h1
    refine Ev.step (fun k => ?_) h1
    have w1 : wrap64 (wrap64 (2 * (S : Int)) + 1) = ((2 * S + 1 : Nat) : Int) := by rw [w64 (x := 2 * (S : Int)) (by omega) (by omega), w64 (by omega) (by omega)]; rfl
    rw [spec_siWays.l0, if_pos (by omega), if_pos (by omega), if_pos (by omega), w1, if_pos (by omega), if_pos (by omega), rd_eq l i hil, hp, Int.toNat_natCast, tabI_length]
    rfl
end
/-- The reference's table. -/
theorem siWays_ev (l : List Int) (h : piecesB l = true) : Ev (fun k => spec_siWays.f k l) (tabI (fun v => (W l.reverse v : Int)) l.sum.toNat) := by
  have hs := pieces_sum h
  have hb := pieces_mem h
  have hl := pieces_len h
  obtain ⟨S, hS⟩ : ∃ S : Nat, l.sum = S := ⟨l.sum.toNat, by omega⟩
  rw [hS, Int.toNat_natCast]
  unfold spec_siWays.f
  refine Ev.bind (piSum_ev l (by omega) (fun x hx => by have := hb x hx; omega) (by omega)) ?_
  have w1 : wrap64 (wrap64 (2 * (S : Int)) + 1) = ((2 * S + 1 : Nat) : Int) := by rw [w64 (x := 2 * (S : Int)) (by omega) (by omega), w64 (by omega) (by omega)]; rfl
  rw [hS, w1, Int.toNat_natCast]
  have h1 := ways_out l hl hb S hS (by omega) l.length 0 (by omega) (by omega)
  have e : (List.replicate (2 * S + 1) (0 : Int)).set S 1 = tabI (fun v => (W (l.take 0).reverse v : Int)) S := by
    have : List.replicate (2 * S + 1) (0 : Int) = tabI (fun _ => (0 : Int)) S := by simp [tabI, List.map_const']
    rw [this, tabI_set]
    refine tabI_congr _ _ _ fun v _ _ => ?_
    by_cases hv : v = 0
    · subst hv; rw [if_pos (by omega)]; rfl
    · rw [if_neg (by omega)]; simp [W, hv]
  rw [← e] at h1
  refine Ev.if_pos' (by omega) (Ev.if_pos' (by omega) (Ev.some_bind (Ev.if_pos' (by omega) (Ev.if_pos' (by simp; omega) ?_))))
  rw [Int.toNat_natCast]
  exact h1

end Go.Proofs.Ytobcoaafbekhaaa.Pure

/- Plain lemmas: few pieces. -/
namespace Go.Proofs.Ytobcoaafbekhaaa.Pure
open Go.RowKit Go.Proofs.Ytobcoaafbekhaaa.Fb Go.Proofs.YtobcoaafbekhaaaW.PrintWords Go.Proofs.YtobcoaafbekhaaaW.PrintLast

def fewB (l : List Int) : Bool := piecesB l && decide ((l.length : Int) ≤ 12)
theorem siFew_ev (l : List Int) (hl : l.length ≤ 35184372088832) : Ev (fun k => spec_siFew.f k l) (fewB l) := by
  unfold spec_siFew.f fewB
  refine Ev.bind (piGood_ev l hl) ?_
  cases h : piecesB l with
  | true => exact Ev.if_pos' rfl (Ev.now _)
  | false => exact Ev.if_neg' (by simp) (Ev.now _)
theorem isBoth_ev (l : List Int) (n : Int) (hl : l.length ≤ 35184372088832) : Ev (fun k => impl_isBoth.f k l n) (fewB l && decide (0 ≤ n ∧ n ≤ 1000000)) := by
  unfold impl_isBoth.f fewB
  refine Ev.bind (ArePieces_ev l hl) ?_
  cases h : piecesB l with
  | false => exact Ev.if_neg' (by simp) (Ev.now _)
  | true =>
    refine Ev.if_pos' rfl ?_
    by_cases h2 : (l.length : Int) ≤ 12
    · rw [decide_eq_true h2]; exact Ev.if_pos' h2 (Ev.const_bind (within_eq _ _ _) (Ev.now _))
    · rw [decide_eq_false h2]; exact Ev.if_neg' h2 (Ev.now _)
theorem few_pieces {l : List Int} (h : fewB l = true) : piecesB l = true ∧ l.length ≤ 12 := by
  unfold fewB at h
  rw [Bool.and_eq_true, decide_eq_true_eq] at h
  exact ⟨h.1, by omega⟩
/-- The rest of a law without a slice among its results: the argument is as it was. -/
theorem same_rest (l : List Int) (hl : l.length ≤ 35184372088832) : Ev (fun k => (laws_toIntS.f k l).bind fun t => (laws_eqIntS.f k l t).bind fun u => if u = true then some true else some false) true :=
  Ev.bind (toIntS_ev l hl) (Ev.bind (eqIntS_self l hl) (Ev.if_pos' rfl (Ev.now _)))

end Go.Proofs.Ytobcoaafbekhaaa.Pure

/- Plain lemmas: the program's tables from each piece on: how many signs have a value, and the fewest pieces that are not left. -/
namespace Go.Proofs.Ytobcoaafbekhaaa.Pure
open Go.RowKit Go.Proofs.Ytobcoaafbekhaaa.Fb Go.Proofs.YtobcoaafbekhaaaW.PrintWords Go.Proofs.YtobcoaafbekhaaaW.PrintLast
set_option linter.unusedVariables false

theorem W_snoc (p : Int) : ∀ (t : List Int) (v : Int), W (t ++ [p]) v = stepW p (W t) v
  | [], v => rfl
  | q :: t, v => by
    have h1 := W_snoc p t v
    have h2 := W_snoc p t (v - q)
    have h3 := W_snoc p t (v + q)
    unfold stepW at h1 h2 h3
    rw [show v - q - p = v - p - q by omega, show v - q + p = v + p - q by omega] at h2
    rw [show v + q - p = v - p + q by omega, show v + q + p = v + p + q by omega] at h3
    simp only [List.cons_append, W, stepW]
    omega
theorem W_reverse : ∀ (t : List Int) (v : Int), W t.reverse v = W t v
  | [], v => rfl
  | p :: t, v => by
    rw [List.reverse_cons, W_snoc, W]
    unfold stepW
    rw [W_reverse t, W_reverse t, W_reverse t]
/-- The fewest pieces that are not left, for a value; 1000 and more: there are none. -/
def few : List Int → Int → Nat
  | [], v => if v = 0 then 0 else 1000
  | p :: t, v => min (few t v) (min (few t (v - p) + 1) (few t (v + p) + 1))
theorem few_snoc (p : Int) : ∀ (t : List Int) (v : Int), few (t ++ [p]) v = min (few t v) (min (few t (v - p) + 1) (few t (v + p) + 1))
  | [], v => rfl
  | q :: t, v => by
    have h1 := few_snoc p t v
    have h2 := few_snoc p t (v - q)
    have h3 := few_snoc p t (v + q)
    rw [show v - q - p = v - p - q by omega, show v - q + p = v + p - q by omega] at h2
    rw [show v + q - p = v - p + q by omega, show v + q + p = v + p + q by omega] at h3
    simp only [List.cons_append, few, h1, h2, h3]
    generalize few t v = a1
    generalize few t (v - p) = a2
    generalize few t (v + p) = a3
    generalize few t (v - q) = a4
    generalize few t (v - p - q) = a5
    generalize few t (v + p - q) = a6
    generalize few t (v + q) = a7
    generalize few t (v - p + q) = a8
    generalize few t (v + p + q) = a9
    simp only [← Nat.add_min_add_right]
    ac_rfl
theorem few_reverse : ∀ (t : List Int) (v : Int), few t.reverse v = few t v
  | [], v => rfl
  | p :: t, v => by
    rw [List.reverse_cons, few_snoc, few, few_reverse t, few_reverse t, few_reverse t]
theorem few_reach : ∀ (t : List Int) (v : Int), (0 < W t v → few t v ≤ t.length) ∧ (W t v = 0 → 1000 ≤ few t v)
  | [], v => by
    unfold W few
    by_cases h : v = 0 <;> simp [h]
  | p :: t, v => by
    have h1 := few_reach t v
    have h2 := few_reach t (v - p)
    have h3 := few_reach t (v + p)
    rw [W, stepW, few, List.length_cons]
    omega
/-- The fewest, as the program's table holds them: 21 where there are none. -/
def fewT (t : List Int) (v : Int) : Int := if 0 < W t v then (few t v : Int) else 21
def lowF (t : List Int) (a v : Int) : Nat := if v < a ∧ 0 < W t v then few t v else 1000
theorem lowF_up (t : List Int) (a v : Int) : lowF t (a + 1) v = if v = a ∧ 0 < W t a then few t a else lowF t a v := by
  unfold lowF
  by_cases h : v = a
  · subst h
    by_cases h2 : 0 < W t v
    · rw [if_pos ⟨by omega, h2⟩, if_pos ⟨rfl, h2⟩]
    · rw [if_neg (fun h => h2 h.2), if_neg (fun h => h2 h.2), if_neg (fun h => h2 h.2)]
  · rw [if_neg (show ¬ (v = a ∧ 0 < W t a) from fun h3 => h h3.1)]
    by_cases h3 : v < a ∧ 0 < W t v
    · rw [if_pos h3, if_pos ⟨by omega, h3.2⟩]
    · rw [if_neg h3, if_neg (fun h4 => h3 ⟨by omega, h4.2⟩)]
/-- The next table of the fewest when the values below a are done. -/
def fewS (p : Int) (t : List Int) (a v : Int) : Int := ((min 21 (min (lowF t a v) (min (lowF t a (v - p) + 1) (lowF t a (v + p) + 1))) : Nat) : Int)
theorem rd_tabI' (f : Int → Int) (S i : Nat) (h : i < 2 * S + 1) : rd (tabI f S) (i : Int) = f ((i : Int) - S) := by
  rw [rd_nat, tabI_get _ _ _ _ h]
theorem mn_min (y z : Nat) : mn (y : Int) (z : Int) = ((min y z : Nat) : Int) := by
  unfold mn
  split <;> omega
/-- One value done. -/
theorem side_step (p : Nat) (t : List Int) (S' : Nat) (hp : 1 ≤ p) (hp2 : p ≤ 10000) (hS : S' ≤ 200000) (hl : t.length ≤ 19) (k : Nat) (hk : k < 2 * S' + 1) :
    impl_sidesOf.steps (p : Int) (k : Int) (W t ((k : Int) - S') : Int) (fewT t ((k : Int) - S')) (tabI (fun v => (stepW p (low (W t) ((k : Int) - S')) v : Int)) (S' + p), tabI (fewS p t ((k : Int) - S')) (S' + p)) 3
      = (tabI (fun v => (stepW p (low (W t) (((k + 1 : Nat) : Int) - S')) v : Int)) (S' + p), tabI (fewS p t (((k + 1 : Nat) : Int) - S')) (S' + p)) := by
  have hW : ∀ v, W t v ≤ 1162261467 := fun v => Nat.le_trans (W_le _ v) (show 3 ^ _ ≤ 3 ^ 19 from Nat.pow_le_pow_right (by omega) hl)
  have hlo : ∀ u, low (W t) ((k : Int) - S') u ≤ 1162261467 := fun u => by unfold low; split; exact hW u; omega
  have hst : ∀ u, stepW p (low (W t) ((k : Int) - S')) u ≤ 3486784401 := fun u => by
    have := hlo u; have := hlo (u - (p : Int)); have := hlo (u + (p : Int)); unfold stepW; omega
  have hfr := few_reach t ((k : Int) - S')
  have hw0 := hW ((k : Int) - S')
  have e0 : (k : Int) + ((0 : Nat) : Int) * (p : Int) = ((k : Nat) : Int) := by simp
  have e1 : (k : Int) + ((1 : Nat) : Int) * (p : Int) = ((k + p : Nat) : Int) := by push_cast; omega
  have e2 : (k : Int) + ((2 : Nat) : Int) * (p : Int) = ((k + 2 * p : Nat) : Int) := by push_cast; omega
  have d0 : ((k : Nat) : Int) - ((S' + p : Nat) : Int) = (k : Int) - S' - p := by omega
  have d1 : ((k + p : Nat) : Int) - ((S' + p : Nat) : Int) = (k : Int) - S' := by omega
  have d2 : ((k + 2 * p : Nat) : Int) - ((S' + p : Nat) : Int) = (k : Int) - S' + p := by omega
  have eA : ((k + 1 : Nat) : Int) - S' = ((k : Int) - S') + 1 := by omega
  have T : ∀ (f : Int → Int) (i : Nat) (h : i < 2 * (S' + p) + 1), rd (tabI f (S' + p)) (i : Int) = f ((i : Int) - ((S' + p : Nat) : Int)) := fun f i h => rd_tabI' f _ i h
  have hp1 : (1 : Int) ≤ p := by omega
  have hup : ∀ v, stepW p (low (W t) ((k : Int) - S' + 1)) v = stepW p (low (W t) ((k : Int) - S')) v + ((if v = (k : Int) - S' then W t ((k : Int) - S') else 0) + (if v - p = (k : Int) - S' then W t ((k : Int) - S') else 0) + (if v + p = (k : Int) - S' then W t ((k : Int) - S') else 0)) := fun v => by
    unfold stepW
    rw [low_up, low_up, low_up]
    generalize low (W t) ((k : Int) - S') v = x1
    generalize low (W t) ((k : Int) - S') (v - p) = x2
    generalize low (W t) ((k : Int) - S') (v + p) = x3
    generalize (if v = (k : Int) - S' then W t ((k : Int) - S') else 0) = x4
    generalize (if v - p = (k : Int) - S' then W t ((k : Int) - S') else 0) = x5
    generalize (if v + p = (k : Int) - S' then W t ((k : Int) - S') else 0) = x6
    omega
  have w : ∀ u, wrap64 ((stepW p (low (W t) ((k : Int) - S')) u : Int) + (W t ((k : Int) - S') : Int)) = (stepW p (low (W t) ((k : Int) - S')) u : Int) + (W t ((k : Int) - S') : Int) := fun u => by
    have := hst u
    rw [w64 (by omega) (by omega)]
  rw [eA]
  generalize hA : (k : Int) - S' = A at *
  have T0 : ∀ f : Int → Int, rd (tabI f (S' + p)) ((k : Nat) : Int) = f (A - p) := fun f => by rw [T f k (by omega), d0]
  have T1 : ∀ f : Int → Int, rd (tabI f (S' + p)) ((k + p : Nat) : Int) = f A := fun f => by rw [T f (k + p) (by omega), d1]
  have T2 : ∀ f : Int → Int, rd (tabI f (S' + p)) ((k + 2 * p : Nat) : Int) = f (A + p) := fun f => by rw [T f (k + 2 * p) (by omega), d2]
  have n1 : ¬ (A = A - (p : Int)) := by omega
  have n2 : ¬ (A + (p : Int) = A) := by omega
  have n3 : ¬ (A + (p : Int) = A - p) := by omega
  have G1 : tabI (fun v => if v = A + (p : Int) then (stepW p (low (W t) A) (A + (p : Int)) : Int) + (W t A : Int) else if v = A then (stepW p (low (W t) A) A : Int) + (W t A : Int) else if v = A - (p : Int) then (stepW p (low (W t) A) (A - (p : Int)) : Int) + (W t A : Int) else (stepW p (low (W t) A) v : Int)) (S' + p) = tabI (fun v => (stepW p (low (W t) (A + 1)) v : Int)) (S' + p) := by
    refine tabI_congr _ _ _ fun v _ _ => ?_
    show (if v = A + (p : Int) then _ else _) = _
    rw [hup]
    by_cases c2 : v = A + p
    · subst c2
      rw [if_pos rfl, if_neg n2, if_pos (by omega), if_neg (by omega)]; push_cast; omega
    · rw [if_neg c2]
      by_cases c1 : v = A
      · subst c1
        rw [if_pos rfl, if_pos rfl, if_neg (by omega), if_neg (by omega)]; push_cast; omega
      · rw [if_neg c1, if_neg c1]
        by_cases c0 : v = A - p
        · subst c0
          rw [if_pos rfl, if_neg (by omega), if_pos (by omega)]; push_cast; omega
        · rw [if_neg c0, if_neg (by omega), if_neg (by omega)]; push_cast; omega
  have hlA : lowF t A A = 1000 := by unfold lowF; rw [if_neg (fun h => by omega)]
  by_cases hw : 0 < W t A
  · have hwI : (0 : Int) < (W t A : Int) := by omega
    have hfT : fewT t A = (few t A : Int) := by unfold fewT; rw [if_pos hw]
    have hfl := hfr.1 hw
    have f1 : wrap64 (fewT t A + 1) = ((few t A + 1 : Nat) : Int) := by rw [hfT, w64 (by omega) (by omega)]; rfl
    have f0 : wrap64 (fewT t A + 0) = ((few t A : Nat) : Int) := by rw [hfT, w64 (by omega) (by omega)]; omega
    have hlu : ∀ u, lowF t (A + 1) u = if u = A then few t A else lowF t A u := fun u => by
      rw [lowF_up]
      by_cases hu : u = A
      · rw [if_pos ⟨hu, hw⟩, if_pos hu]
      · rw [if_neg (fun h => hu h.1), if_neg hu]
    simp only [impl_sidesOf.steps, impl_sidesOf.one, e0, e1, e2, Int.toNat_natCast, hwI, if_true, tabI_set, T0, T1, T2, d0, d1, d2, n1, n2, n3, if_false, w, show ¬ ((0 : Nat) = 1) by omega, show ¬ ((2 : Nat) = 1) by omega, f1, f0]
    refine congr (congrArg Prod.mk G1) ?_
    refine tabI_congr _ _ _ fun v _ _ => ?_
    show (if v = A + (p : Int) then _ else _) = _
    unfold fewS
    rw [hlu v, hlu (v - p), hlu (v + p)]
    by_cases c2 : v = A + p
    · subst c2
      rw [if_pos rfl, if_neg n2, if_pos (show A + (p : Int) - p = A by omega), if_neg (show ¬ (A + (p : Int) + p = A) by omega), mn_min, show A + (p : Int) - p = A by omega, hlA]
      congr 1; omega
    · rw [if_neg c2]
      by_cases c1 : v = A
      · subst c1
        rw [if_pos rfl, if_pos rfl, if_neg (show ¬ (v - (p : Int) = v) by omega), if_neg n2, mn_min, hlA]
        congr 1; omega
      · rw [if_neg c1, if_neg c1]
        by_cases c0 : v = A - p
        · subst c0
          rw [if_pos rfl, if_neg (show ¬ (A - (p : Int) - p = A) by omega), if_pos (show A - (p : Int) + p = A by omega), mn_min, show A - (p : Int) + p = A by omega, hlA]
          congr 1; omega
        · rw [if_neg c0, if_neg (show ¬ (v - (p : Int) = A) by omega), if_neg (show ¬ (v + (p : Int) = A) by omega)]
  · have hwI : ¬ ((0 : Int) < (W t A : Int)) := by omega
    have hlu : ∀ u, lowF t (A + 1) u = lowF t A u := fun u => by rw [lowF_up, if_neg (fun h => hw h.2)]
    simp only [impl_sidesOf.steps, impl_sidesOf.one, e0, e1, e2, Int.toNat_natCast, hwI, if_false, tabI_set, T0, T1, T2, d0, d1, d2, n1, n2, n3, w]
    refine congr (congrArg Prod.mk G1) ?_
    refine tabI_congr _ _ _ fun v _ _ => ?_
    show fewS p t A v = _
    unfold fewS
    rw [hlu v, hlu (v - p), hlu (v + p)]
theorem side_rows (p : Nat) (t : List Int) (S' : Nat) (hp : 1 ≤ p) (hp2 : p ≤ 10000) (hS : S' ≤ 200000) (hl : t.length ≤ 19) (hfar : ∀ v, 0 < W t v → -(S' : Int) ≤ v ∧ v ≤ S') : ∀ k : Nat, k ≤ 2 * S' + 1 →
    impl_sidesOf.rows (p : Int) (tabI (fun v => (W t v : Int)) S') (tabI (fewT t) S') (2 * (S' + p) + 1) k = (tabI (fun v => (stepW p (low (W t) ((k : Int) - S')) v : Int)) (S' + p), tabI (fewS p t ((k : Int) - S')) (S' + p))
  | 0 => fun _ => by
    have z : ∀ u, low (W t) (((0 : Nat) : Int) - S') u = 0 := fun u => by
      unfold low
      by_cases hu : u < ((0 : Nat) : Int) - S'
      · rw [if_pos hu]
        cases hw : W t u with
        | zero => rfl
        | succ n => have := hfar u (by omega); omega
      · rw [if_neg hu]
    have z2 : ∀ u, lowF t (((0 : Nat) : Int) - S') u = 1000 := fun u => by
      unfold lowF
      rw [if_neg (fun h => by have := hfar u h.2; omega)]
    rw [impl_sidesOf.rows]
    refine congr (congrArg Prod.mk ?_) ?_
    · show List.replicate _ (0 : Int) = tabI _ _
      rw [tabI_congr _ (fun _ => (0 : Int)) _ (fun v _ _ => by unfold stepW; rw [z, z, z]; rfl)]
      simp [tabI, List.map_const']
    · show List.replicate _ (21 : Int) = tabI _ _
      rw [tabI_congr _ (fun _ => (21 : Int)) _ (fun v _ _ => by unfold fewS; rw [z2, z2, z2]; rfl)]
      simp [tabI, List.map_const']
  | k + 1 => fun hk => by
    rw [impl_sidesOf.rows, side_rows p t S' hp hp2 hS hl hfar k (by omega), rd_tabI' _ _ k (by omega), rd_tabI' _ _ k (by omega)]
    exact side_step p t S' hp hp2 hS hl k (by omega)
theorem W_far' (q : List Int) (hq : ∀ x ∈ q, 1 ≤ x ∧ x ≤ 10000) (S : Nat) (hS : q.sum = (S : Int)) (v : Int) (h : 0 < W q v) : -(S : Int) ≤ v ∧ v ≤ S := by
  have : ¬ (q.sum < v ∨ v < - q.sum) := fun hh => by
    have := W_far q (fun x hx => by have := hq x hx; omega) v hh
    omega
  omega
/-- The program's tables. -/
theorem side_tabs : ∀ (t : List Int), t.length ≤ 20 → (∀ x ∈ t, 1 ≤ x ∧ x ≤ 10000) → impl_sidesOf.tabs t = (tabI (fun v => (W t v : Int)) t.sum.toNat, tabI (fewT t) t.sum.toNat)
  | [], _, _ => by
    show (([1] : List Int), ([0] : List Int)) = _
    simp [tabI, W, fewT, few]
  | x :: t, hl, hq => by
    have hq' : ∀ y ∈ t, 1 ≤ y ∧ y ≤ 10000 := fun y hy => hq y (List.mem_cons_of_mem _ hy)
    have hs := impl_sidesOf.sum_le t hq'
    have hx := hq x List.mem_cons_self
    rw [List.length_cons] at hl
    obtain ⟨S', hS⟩ : ∃ S' : Nat, t.sum = S' := ⟨t.sum.toNat, by omega⟩
    obtain ⟨p, hp⟩ : ∃ p : Nat, x = p := ⟨x.toNat, by omega⟩
    have ih := side_tabs t (by omega) hq'
    rw [hS, Int.toNat_natCast] at ih
    have hfar := fun v => W_far' t hq' S' hS v
    have h1 := side_rows p t S' (by omega) (by omega) (by omega) (by omega) hfar (2 * S' + 1) (Nat.le_refl _)
    rw [impl_sidesOf.tabs, ih, tabI_length, hS, hp, List.sum_cons, hS, show (2 * ((p : Int) + (S' : Int)) + 1).toNat = 2 * (S' + p) + 1 by omega, h1, show ((p : Int) + (S' : Int)).toNat = S' + p by omega]
    have hz : ∀ u, low (W t) (((2 * S' + 1 : Nat) : Int) - S') u = W t u := fun u => by
      unfold low
      by_cases hu : u < ((2 * S' + 1 : Nat) : Int) - S'
      · rw [if_pos hu]
      · rw [if_neg hu]
        cases hw : W t u with
        | zero => rfl
        | succ n => have := hfar u (by omega); omega
    have hz2 : ∀ u, lowF t (((2 * S' + 1 : Nat) : Int) - S') u = if 0 < W t u then few t u else 1000 := fun u => by
      unfold lowF
      by_cases hu : 0 < W t u
      · rw [if_pos ⟨by have := hfar u hu; omega, hu⟩, if_pos hu]
      · rw [if_neg (fun h => hu h.2), if_neg hu]
    refine congr (congrArg Prod.mk ?_) ?_
    · refine tabI_congr _ _ _ fun v _ _ => ?_
      show ((stepW p _ v : Nat) : Int) = (W ((p : Int) :: t) v : Int)
      rw [W]; unfold stepW; rw [hz, hz, hz]
    · refine tabI_congr _ _ _ fun v _ _ => ?_
      show fewS p t _ v = fewT ((p : Int) :: t) v
      unfold fewS fewT
      rw [hz2, hz2, hz2, W, stepW, few]
      have a1 := few_reach t v; have a2 := few_reach t (v - p); have a3 := few_reach t (v + p)
      by_cases c1 : 0 < W t v <;> by_cases c2 : 0 < W t (v - (p : Int)) <;> by_cases c3 : 0 < W t (v + (p : Int)) <;> simp only [c1, c2, c3, if_true, if_false] <;> (first | rw [if_pos (by omega)] | rw [if_neg (by omega)]) <;> omega
/-- How many signs have a value, by the program and by the reference. -/
theorem good_few {l : List Int} (h : fewB l = true) : impl_sidesOf.good l = true := by
  obtain ⟨hp, h12⟩ := few_pieces h
  have hb := pieces_mem hp
  unfold impl_sidesOf.good
  rw [Bool.and_eq_true, decide_eq_true_eq, List.all_eq_true]
  exact ⟨h12, fun x hx => decide_eq_true (hb x hx)⟩
def wayW (l : List Int) (n : Int) : Int := (W l n : Int)
theorem waysTo_eq (l : List Int) (h : fewB l = true) (i : Nat) (n : Int) : impl_sidesOf.waysTo l i n = wayW (l.drop i) n := by
  obtain ⟨hl, hq⟩ := impl_sidesOf.goodp (good_few h)
  have hq' : ∀ x ∈ l.drop i, 1 ≤ x ∧ x ≤ 10000 := fun x hx => hq x (List.mem_of_mem_drop hx)
  have hs := impl_sidesOf.sum_le _ hq'
  obtain ⟨S, hS⟩ : ∃ S : Nat, (l.drop i).sum = S := ⟨(l.drop i).sum.toNat, by omega⟩
  unfold impl_sidesOf.waysTo wayW
  rw [side_tabs _ (by rw [List.length_drop]; omega) hq', hS, Int.toNat_natCast]
  by_cases hin : 0 ≤ n + (S : Int) ∧ n + (S : Int) ≤ 2 * (S : Int)
  · obtain ⟨j, hj⟩ : ∃ j : Nat, n + (S : Int) = j := ⟨(n + S).toNat, by omega⟩
    rw [if_pos hin, hj, rd_tabI' _ _ j (by omega), show (j : Int) - (S : Int) = n by omega]
  · rw [if_neg hin]
    cases hw : W (l.drop i) n with
    | zero => rfl
    | succ m => have := W_far' _ hq' S hS n (by omega); omega

end Go.Proofs.Ytobcoaafbekhaaa.Pure

/- Plain lemmas: how many signs of few pieces have a value, by the reference. -/
namespace Go.Proofs.Ytobcoaafbekhaaa.Pure
open Go.RowKit Go.Proofs.Ytobcoaafbekhaaa.Fb Go.Proofs.YtobcoaafbekhaaaW.PrintWords Go.Proofs.YtobcoaafbekhaaaW.PrintLast

theorem siAsked_ev (l : List Int) (n : Int) (hl : l.length ≤ 35184372088832) : Ev (fun k => spec_siAsked.f k l n) (fewB l && decide (0 ≤ n ∧ n ≤ 1000000)) := by
  unfold spec_siAsked.f
  refine Ev.bind (siFew_ev l hl) ?_
  cases h : fewB l with
  | false => exact Ev.if_neg' (by simp) (Ev.now _)
  | true => exact Ev.if_pos' rfl (Ev.const_bind (l1In_eq _ _ _) (Ev.now _))
theorem siMake_ev (l : List Int) (n : Int) (h : fewB l = true) (hn : -3000000 ≤ n ∧ n ≤ 3000000) : Ev (fun k => spec_siMake.f k l n) (wayW l n) := by
  obtain ⟨hp, h12⟩ := few_pieces h
  have hb := pieces_mem hp
  have hs := pieces_sum hp
  obtain ⟨S, hS⟩ : ∃ S : Nat, l.sum = S := ⟨l.sum.toNat, by omega⟩
  unfold spec_siMake.f wayW
  refine Ev.bind (piSum_ev l (by omega) (fun x hx => by have := hb x hx; omega) (by omega)) (Ev.const_bind (l1In_eq _ _ _) ?_)
  rw [hS, w64 (x := -(S : Int)) (by omega) (by omega), w64 (x := (S : Int) + n) (by omega) (by omega)]
  by_cases hin : -(S : Int) ≤ n ∧ n ≤ S
  · obtain ⟨j, hj⟩ : ∃ j : Nat, (S : Int) + n = j := ⟨(S + n).toNat, by omega⟩
    refine Ev.if_pos' (decide_eq_true hin) (Ev.bind (siWays_ev l hp) (Ev.if_pos' (by omega) (Ev.if_pos' ?_ ?_)))
    · rw [tabI_length, hS]; omega
    · rw [hS, Int.toNat_natCast, hj, rd_tabI _ _ j (by omega), W_reverse, show (j : Int) - (S : Int) = n by omega]
      exact Ev.now _
  · refine Ev.if_neg' (by rw [decide_eq_false hin]; simp) ?_
    have : W l n = 0 := by
      cases hw : W l n with
      | zero => rfl
      | succ m => have := W_far' l hb S hS n (by omega); omega
    rw [this]
    exact Ev.now _

end Go.Proofs.Ytobcoaafbekhaaa.Pure
