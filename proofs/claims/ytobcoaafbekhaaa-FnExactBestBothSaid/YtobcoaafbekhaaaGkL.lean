/- Plain lemmas of several texts in one: Base, Sum0, Piece0, Sign0, Reach0, Run0. -/
import Derived.Test.YtobcoaafbekhaaaWWords
import Derived.Test.YtobcoaafbekhaaaWMore
import Derived.Test.YtobcoaafbekhaaaGkx1
import Derived.Test.YtobcoaafbekhaaaGkx4
import Derived.Test.YtobcoaafbekhaaaGkx2
import Derived.Test.YtobcoaafbekhaaaGkx5
import Derived.Test.YtobcoaafbekhaaaGkx3
import Derived.Test.YtobcoaafbekhaaaGkx6
import Derived.Test.YtobcoaafbekhaaaGkx7
/- Plain lemmas on the laws' own helpers: copying a list, comparing two lists. -/
namespace Go.Proofs.Ytobcoaafbekhaaa.Pure
open Go.RowKit Go.Proofs.Ytobcoaafbekhaaa.Gk Go.Proofs.YtobcoaafbekhaaaW.PrintWords Go.Proofs.YtobcoaafbekhaaaW.PrintLast

theorem Ev.eq {α : Type} {g f : Nat → Option α} {r : α} (h : ∀ k, g (k + 1) = f k) (k : Ev f r) : Ev g r := Ev.step h k
theorem Ev.pure' {α : Type} {g : Nat → Option α} {r : α} (h : ∀ k, g k = some r) : Ev g r := ⟨0, fun k _ => h k⟩
theorem Ev.one {α : Type} {g : Nat → Option α} {r : α} (h : ∀ k, g (k + 1) = some r) : Ev g r := Ev.step (f := fun _ => some r) h (Ev.now r)
theorem Ev.some_bind {α β : Type} {f : Nat → α → Option β} {a : α} {r : β} (h : Ev (fun n => f n a) r) : Ev (fun n => (some a).bind (f n)) r := h
theorem Ev.if_pos' {α : Type} {c : Prop} [Decidable c] {g f : Nat → Option α} {r : α} (hc : c) (h : Ev g r) : Ev (fun n => if c then g n else f n) r := by
  simpa only [if_pos hc] using h
theorem Ev.if_neg' {α : Type} {c : Prop} [Decidable c] {g f : Nat → Option α} {r : α} (hc : ¬ c) (h : Ev f r) : Ev (fun n => if c then g n else f n) r := by
  simpa only [if_neg hc] using h
theorem Ev.const_bind {α β : Type} {g : Option α} {f : Nat → α → Option β} {a : α} {r : β} (h : g = some a) (k : Ev (fun n => f n a) r) : Ev (fun n => g.bind (f n)) r := by
  simpa only [h, Option.bind_some] using k
/-- More rounds may be taken. -/
theorem Ev.le {α : Type} {g f : Nat → Option α} {r : α} (h : Ev g r) (hle : ∀ k, LeO (g k) (f k)) : Ev f r := by
  obtain ⟨K, hK⟩ := h
  exact ⟨K, fun k hk => hle k _ (hK k hk)⟩

theorem w64 {x : Int} (h0 : -9223372036854775808 ≤ x) (h1 : x ≤ 9223372036854775807) : wrap64 x = x := by unfold wrap64; omega
theorem rd_eq (l : List Int) (i : Nat) (h : i < l.length) : rd l (i : Int) = l[i] := by simp [rd, h]
theorem rd_nat (l : List Int) (i : Nat) : rd l (i : Int) = l.getD i 0 := rfl

theorem l1In_eq (a b c : Int) : spec_l1In.f a b c = some (decide (b ≤ a ∧ a ≤ c)) := by
  unfold spec_l1In.f
  by_cases h : a ≥ b <;> simp [h, ge_iff_le] <;> omega
theorem set_split (l : List Int) (i : Nat) (h : i < l.length) (v : Int) : l.set i v = l.take i ++ v :: l.drop (i + 1) := by
  rw [List.set_eq_take_append_cons_drop, if_pos h]

theorem toIntS_loop (l : List Int) (hl : l.length ≤ 35184372088832) (d : Nat) : ∀ (i : Nat) (acc : List Int), acc.length = l.length → l.length - i = d → i ≤ l.length → acc.take i = l.take i →
    Ev (fun k => laws_toIntS.l0 k l acc (i : Int)) l := by
  induction d with
  | zero =>
    intro i acc ha hd hi he
    have hil : i = l.length := by omega
    refine Ev.one fun k => ?_
    rw [laws_toIntS.l0, if_neg (by omega)]
    have := he; rw [hil] at this
    rw [List.take_length, ← ha, List.take_length] at this
    rw [this]
  | succ d ih =>
    intro i acc ha hd hi he
    refine Ev.step (f := fun k => laws_toIntS.l0 k l (acc.set i l[i]!) ((i + 1 : Nat) : Int)) (fun k => ?_) (ih (i + 1) _ (by simpa using ha) (by omega) (by omega) ?_)
    · rw [laws_toIntS.l0, if_pos (by omega), if_pos (by omega), if_pos (by omega), w64 (by omega) (by omega)]
      have : rd l (i : Int) = l[i]! := by rw [rd_eq l i (by omega), getElem!_pos l i (by omega)]
      rw [this]
      rfl
    · rw [getElem!_pos l i (by omega), List.take_succ_eq_append_getElem (by simp; omega), List.take_succ_eq_append_getElem (l := l) (by omega), List.take_set_of_le (by omega), he]
      simp
theorem toIntS_ev (l : List Int) (hl : l.length ≤ 35184372088832) : Ev (fun k => laws_toIntS.f k l) l := by
  unfold laws_toIntS.f
  refine Ev.if_pos' (by omega) (Ev.if_pos' (by omega) ?_)
  exact toIntS_loop l hl l.length 0 _ (by simp) (by omega) (by omega) (by simp)

theorem eqIntS_loop (a b : List Int) (hab : a.length = b.length) (hl : a.length ≤ 35184372088832) (d : Nat) : ∀ (i : Nat), a.length - i = d → i ≤ a.length →
    Ev (fun k => laws_eqIntS.l0 k a b (i : Int)) (decide (a.drop i = b.drop i)) := by
  induction d with
  | zero =>
    intro i hd hi
    refine Ev.one fun k => ?_
    rw [laws_eqIntS.l0, if_neg (by omega), List.drop_of_length_le (by omega), List.drop_of_length_le (by omega)]
    simp
  | succ d ih =>
    intro i hd hi
    have hi' : i < a.length := by omega
    have h := ih (i + 1) (by omega) (by omega)
    have hib : i < b.length := by omega
    rw [List.drop_eq_getElem_cons hi', List.drop_eq_getElem_cons hib]
    by_cases he : a[i] = b[i]
    · refine Ev.step (f := fun k => laws_eqIntS.l0 k a b ((i + 1 : Nat) : Int)) (fun k => ?_) (by simp only [he, List.cons.injEq, true_and]; exact h)
      rw [laws_eqIntS.l0, if_pos (by omega), if_pos (by omega), if_pos (by omega), if_pos (by rw [rd_eq a i hi', rd_eq b i hib, he]), w64 (by omega) (by omega)]
      rfl
    · refine Ev.one fun k => ?_
      rw [laws_eqIntS.l0, if_pos (by omega), if_pos (by omega), if_pos (by omega), if_neg (by rw [rd_eq a i hi', rd_eq b i hib]; exact he)]
      rw [decide_eq_false (fun e => he (List.cons.inj e).1)]
theorem eqIntS_ev (a b : List Int) (hl : a.length ≤ 35184372088832) : Ev (fun k => laws_eqIntS.f k a b) (decide (a = b)) := by
  unfold laws_eqIntS.f
  by_cases h : a.length = b.length
  · refine Ev.if_pos' (by omega) ?_
    simpa using eqIntS_loop a b h hl a.length 0 (by omega) (by omega)
  · refine Ev.if_neg' (by omega) ?_
    rw [decide_eq_false (fun e => h (by rw [e]))]
    exact Ev.now _
theorem eqIntS_self (a : List Int) (hl : a.length ≤ 35184372088832) : Ev (fun k => laws_eqIntS.f k a a) true := by
  simpa using eqIntS_ev a a hl

end Go.Proofs.Ytobcoaafbekhaaa.Pure

/- Plain lemmas: the sum of a list, by the program and by the reference. -/
namespace Go.Proofs.Ytobcoaafbekhaaa.Pure
open Go.RowKit Go.Proofs.Ytobcoaafbekhaaa.Gk Go.Proofs.YtobcoaafbekhaaaW.PrintWords Go.Proofs.YtobcoaafbekhaaaW.PrintLast

theorem sum_nonneg (l : List Int) (hb : ∀ x ∈ l, 0 ≤ x) : 0 ≤ l.sum := by
  induction l with
  | nil => simp
  | cons a t ih => have := hb a List.mem_cons_self; have := ih (fun x hx => hb x (List.mem_cons_of_mem _ hx)); simp only [List.sum_cons]; omega
theorem sum_le (M : Int) (l : List Int) (hb : ∀ x ∈ l, x ≤ M) : l.sum ≤ M * l.length := by
  induction l with
  | nil => simp
  | cons a t ih =>
    have h1 := hb a List.mem_cons_self
    have h2 := ih (fun x hx => hb x (List.mem_cons_of_mem _ hx))
    have e : M * ((a :: t).length : Int) = M * (t.length : Int) + M := by rw [List.length_cons]; push_cast; rw [Int.mul_add, Int.mul_one]
    rw [List.sum_cons, e]
    omega
theorem piSum_loop (l : List Int) (hl : l.length ≤ 35184372088832) (hb : ∀ x ∈ l, 0 ≤ x) (hs : l.sum ≤ 9223372036854775807) (d : Nat) : ∀ i : Nat, l.length - i = d → i ≤ l.length →
    Ev (fun k => spec_piSum.l0 k (l.take i).sum l (l.length : Int) (i : Int)) l.sum := by
  induction d with
  | zero =>
    intro i hd hi
    refine Ev.one fun k => ?_
    rw [spec_piSum.l0, if_neg (by omega), List.take_of_length_le (by omega)]
  | succ d ih =>
    intro i hd hi
    have hil : i < l.length := by omega
    have e : (l.take (i + 1)).sum = (l.take i).sum + l[i] := by rw [List.take_succ_eq_append_getElem hil, List.sum_append]; simp
    have h1 := sum_nonneg (l.take i) (fun x hx => hb x (List.mem_of_mem_take hx))
    have h2 := sum_nonneg (l.drop (i + 1)) (fun x hx => hb x (List.mem_of_mem_drop hx))
    have h3 : (l.take (i + 1)).sum + (l.drop (i + 1)).sum = l.sum := by rw [← List.sum_append, List.take_append_drop]
    have h4 := hb l[i] (List.getElem_mem hil)
    refine Ev.step (fun k => ?_) (ih (i + 1) (by omega) (by omega))
    rw [spec_piSum.l0, if_pos (by omega), if_pos (by omega), if_pos (by omega), rd_eq l i hil, w64 (by omega) (by omega), w64 (by omega) (by omega), e]
    rfl
theorem piSum_ev (l : List Int) (hl : l.length ≤ 35184372088832) (hb : ∀ x ∈ l, 0 ≤ x) (hs : l.sum ≤ 9223372036854775807) : Ev (fun k => spec_piSum.f k l) l.sum := by
  unfold spec_piSum.f
  exact piSum_loop l hl hb hs l.length 0 (by omega) (by omega)
theorem sum_same : ∀ k, ∀ a b c d, spec_piSum.l0 k a b c d = impl_total.l0 k a b c d
  | 0 => fun _ _ _ _ => by rw [spec_piSum.l0, impl_total.l0]
  | k + 1 => fun a b c d => by rw [spec_piSum.l0, impl_total.l0]; simp only [sum_same k]
theorem total_eq (k : Nat) (l : List Int) : impl_total.f k l = spec_piSum.f k l := by
  unfold impl_total.f spec_piSum.f
  rw [sum_same]
theorem total_ev (l : List Int) (hl : l.length ≤ 35184372088832) (hb : ∀ x ∈ l, 0 ≤ x) (hs : l.sum ≤ 9223372036854775807) : Ev (fun k => impl_total.f k l) l.sum :=
  Ev.congr (fun k => total_eq k l) (piSum_ev l hl hb hs)

end Go.Proofs.Ytobcoaafbekhaaa.Pure

/- Plain lemmas: which lists are pieces, by the program and by the reference; the tables of ways; searching an increasing list. -/
namespace Go.Proofs.Ytobcoaafbekhaaa.Pure
open Go.RowKit Go.Proofs.Ytobcoaafbekhaaa.Gk Go.Proofs.YtobcoaafbekhaaaW.PrintWords Go.Proofs.YtobcoaafbekhaaaW.PrintLast

def inB (lo hi : Int) (l : List Int) : Bool := l.all fun x => decide (lo ≤ x) && decide (x ≤ hi)
theorem inB_cons (lo hi a : Int) (t : List Int) : inB lo hi (a :: t) = (decide (lo ≤ a ∧ a ≤ hi) && inB lo hi t) := by simp [inB]
theorem areWithin_eq (l : List Int) (lo hi : Int) (hl : l.length ≤ 35184372088832) : impl_areWithin.f l lo hi = some (inB lo hi l) := by
  unfold impl_areWithin.f
  rw [if_pos (by omega)]
  rfl
theorem l1All_loop (l : List Int) (lo hi : Int) (hl : l.length ≤ 35184372088832) (d : Nat) : ∀ i : Nat, l.length - i = d → i ≤ l.length →
    Ev (fun k => spec_l1All.l0 k lo hi l (l.length : Int) (i : Int)) (inB lo hi (l.drop i)) := by
  induction d with
  | zero =>
    intro i hd hi'
    rw [List.drop_of_length_le (by omega)]
    exact Ev.one fun k => by rw [spec_l1All.l0, if_neg (by omega)]; rfl
  | succ d ih =>
    intro i hd hi'
    have hil : i < l.length := by omega
    rw [List.drop_eq_getElem_cons hil, inB_cons]
    by_cases hb : lo ≤ l[i] ∧ l[i] ≤ hi
    · rw [decide_eq_true hb, Bool.true_and]
      refine Ev.step (fun k => ?_) (ih (i + 1) (by omega) (by omega))
      rw [spec_l1All.l0, if_pos (by omega), if_pos (by omega), if_pos (by omega), rd_eq l i hil, l1In_eq, decide_eq_true hb, Option.bind_some, if_pos rfl, w64 (by omega) (by omega)]
      rfl
    · rw [decide_eq_false hb, Bool.false_and]
      refine Ev.one fun k => ?_
      rw [spec_l1All.l0, if_pos (by omega), if_pos (by omega), if_pos (by omega), rd_eq l i hil, l1In_eq, decide_eq_false hb, Option.bind_some, if_neg (by simp)]
theorem l1All_ev (l : List Int) (lo hi : Int) (hl : l.length ≤ 35184372088832) : Ev (fun k => spec_l1All.f k l lo hi) (inB lo hi l) := by
  unfold spec_l1All.f
  exact l1All_loop l lo hi hl l.length 0 (by omega) (by omega)

def Asc (l : List Int) (j : Nat) : Prop := l.getD j 0 ≤ l.getD (j + 1) 0
instance (l : List Int) (j : Nat) : Decidable (Asc l j) := by unfold Asc; infer_instance
def sortB (l : List Int) : Bool := decide (∀ j, j < l.length - 1 → Asc l j)

theorem piGood_loop (l : List Int) (hl : l.length ≤ 35184372088832) (d : Nat) : ∀ i : Nat, l.length - i = d → 1 ≤ i → i ≤ 35184372088833 →
    Ev (fun k => spec_piGood.l0 k l (i : Int)) (decide (∀ j, j < l.length - 1 → i - 1 ≤ j → Asc l j)) := by
  induction d with
  | zero =>
    intro i hd h1 hi
    rw [decide_eq_true (fun j hj hj' => by omega)]
    exact Ev.one fun k => by rw [spec_piGood.l0, if_neg (by omega)]
  | succ d ih =>
    intro i hd h1 hi
    have hil : i < l.length := by omega
    have e1 : wrap64 ((i : Int) - 1) = ((i - 1 : Nat) : Int) := by rw [w64 (by omega) (by omega)]; omega
    by_cases hc : l.getD (i - 1) 0 ≤ l.getD i 0
    · have h := ih (i + 1) (by omega) (by omega) (by omega)
      have e : decide (∀ j, j < l.length - 1 → i + 1 - 1 ≤ j → Asc l j) = decide (∀ j, j < l.length - 1 → i - 1 ≤ j → Asc l j) := by
        refine decide_eq_decide.2 ⟨fun h j hj hj' => ?_, fun h j hj hj' => h j hj (by omega)⟩
        by_cases ej : j = i - 1
        · subst ej; unfold Asc; rw [show i - 1 + 1 = i by omega]; exact hc
        · exact h j hj (by omega)
      rw [e] at h
      refine Ev.step (fun k => ?_) h
      rw [spec_piGood.l0, if_pos (by omega), e1, if_pos (by omega), if_pos (by omega), if_pos (by omega), rd_nat, rd_nat, if_neg (by omega), w64 (by omega) (by omega)]
      rfl
    · rw [decide_eq_false (fun h => hc (by have := h (i - 1) (by omega) (by omega); unfold Asc at this; rwa [show i - 1 + 1 = i by omega] at this))]
      refine Ev.one fun k => ?_
      rw [spec_piGood.l0, if_pos (by omega), e1, if_pos (by omega), if_pos (by omega), if_pos (by omega), rd_nat, rd_nat, if_pos (by omega)]
def piecesB (l : List Int) : Bool := decide (l.length ≤ 20) && (inB 1 10000 l && sortB l)
theorem piGood_ev (l : List Int) (hl : l.length ≤ 35184372088832) : Ev (fun k => spec_piGood.f k l) (piecesB l) := by
  unfold spec_piGood.f piecesB
  by_cases h : l.length ≤ 20
  · rw [decide_eq_true h, Bool.true_and]
    refine Ev.if_neg' (by omega) (Ev.bind (l1All_ev l 1 10000 hl) ?_)
    cases inB 1 10000 l with
    | false => exact Ev.one fun k => by rw [spec_piGood.j0, if_pos (by simp)]; rfl
    | true =>
      refine Ev.step (fun k => by rw [spec_piGood.j0, if_neg (by simp)]) ?_
      have := piGood_loop l hl (l.length - 1) 1 rfl (by omega) (by omega)
      simpa [sortB] using this
  · rw [decide_eq_false h, Bool.false_and]
    refine Ev.if_pos' (by omega) ?_
    exact Ev.one fun k => by rw [spec_piGood.j0, if_pos (by simp)]
theorem less_eq (a b : Int) : cmp_Less_int.f a b = some (decide (a < b)) := by
  unfold cmp_Less_int.f cmp_isNaN_int.f
  simp
theorem sorted_loop (l : List Int) (hl : l.length ≤ 35184372088832) (i : Nat) : i ≤ l.length - 1 →
    Ev (fun k => slices_IsSorted_int_int.l0 k l (i : Int)) (decide (∀ j, j < i → Asc l j)) := by
  induction i with
  | zero =>
    intro _
    rw [decide_eq_true (fun j hj => by omega)]
    exact Ev.one fun k => by rw [slices_IsSorted_int_int.l0, if_neg (by omega)]
  | succ i ih =>
    intro hi
    have e1 : wrap64 (((i + 1 : Nat) : Int) - 1) = (i : Int) := by rw [w64 (by omega) (by omega)]; omega
    by_cases hc : Asc l i
    · have e : decide (∀ j, j < i → Asc l j) = decide (∀ j, j < i + 1 → Asc l j) := by
        refine decide_eq_decide.2 ⟨fun h j hj => ?_, fun h j hj => h j (by omega)⟩
        by_cases ej : j = i
        · rw [ej]; exact hc
        · exact h j (by omega)
      have h := ih (by omega)
      rw [e] at h
      refine Ev.step (fun k => ?_) h
      unfold Asc at hc
      rw [slices_IsSorted_int_int.l0, if_pos (by omega), if_pos (by omega), if_pos (by omega), e1, if_pos (by omega), if_pos (by omega), less_eq, rd_nat, rd_nat, decide_eq_false (by omega), Option.bind_some, if_neg (by simp)]
    · rw [decide_eq_false (fun h => hc (h i (by omega)))]
      refine Ev.one fun k => ?_
      unfold Asc at hc
      rw [slices_IsSorted_int_int.l0, if_pos (by omega), if_pos (by omega), if_pos (by omega), e1, if_pos (by omega), if_pos (by omega), less_eq, rd_nat, rd_nat, decide_eq_true (by omega), Option.bind_some, if_pos rfl]
theorem sorted_ev (l : List Int) (hl : l.length ≤ 35184372088832) : Ev (fun k => slices_IsSorted_int_int.f k l) (sortB l) := by
  unfold slices_IsSorted_int_int.f sortB
  cases l with
  | nil => exact Ev.one fun k => by rw [slices_IsSorted_int_int.l0, if_neg (by rw [w64 (by simp) (by simp)]; simp)]; rfl
  | cons a t =>
    have e : wrap64 (((a :: t).length : Int) - 1) = (((a :: t).length - 1 : Nat) : Int) := by rw [w64 (by omega) (by omega)]; simp
    rw [e]
    exact sorted_loop (a :: t) hl ((a :: t).length - 1) (by omega)
theorem ArePieces_ev (l : List Int) (hl : l.length ≤ 35184372088832) : Ev (fun k => impl_ArePieces.f k l) (piecesB l) := by
  unfold impl_ArePieces.f piecesB
  by_cases h : l.length ≤ 20
  · rw [decide_eq_true h, Bool.true_and]
    refine Ev.if_pos' (by omega) (Ev.const_bind (areWithin_eq l 1 10000 hl) ?_)
    cases inB 1 10000 l with
    | false => exact Ev.if_neg' (by simp) (Ev.now _)
    | true => exact Ev.if_pos' rfl (Ev.bind (sorted_ev l hl) (Ev.now _))
  · rw [decide_eq_false h, Bool.false_and]
    exact Ev.if_neg' (by omega) (Ev.now _)
theorem pieces_len {l : List Int} (h : piecesB l = true) : l.length ≤ 20 := by simp [piecesB] at h; exact h.1
theorem pieces_mem {l : List Int} (h : piecesB l = true) : ∀ x ∈ l, 1 ≤ x ∧ x ≤ 10000 := by
  simp [piecesB, inB] at h; exact h.2.1
theorem pieces_sum {l : List Int} (h : piecesB l = true) : 0 ≤ l.sum ∧ l.sum ≤ 200000 := by
  have h1 := pieces_mem h
  have h2 := pieces_len h
  have h3 := sum_nonneg l (fun x hx => by have := h1 x hx; omega)
  have h4 := sum_le 10000 l (fun x hx => (h1 x hx).2)
  omega

end Go.Proofs.Ytobcoaafbekhaaa.Pure

/- Plain lemmas: how many signs of pieces have a value; the reference's table of them, and the program's table of the values that there are. -/
namespace Go.Proofs.Ytobcoaafbekhaaa.Pure
open Go.RowKit Go.Proofs.Ytobcoaafbekhaaa.Gk Go.Proofs.YtobcoaafbekhaaaW.PrintWords Go.Proofs.YtobcoaafbekhaaaW.PrintLast

/-- One piece more: left, added or subtracted. -/
def stepW (p : Int) (f : Int → Nat) (v : Int) : Nat := f v + f (v - p) + f (v + p)
/-- How many signs have a value. -/
def W : List Int → Int → Nat
  | [], v => if v = 0 then 1 else 0
  | p :: t, v => stepW p (W t) v
theorem W_le (q : List Int) : ∀ v, W q v ≤ 3 ^ q.length := by
  induction q with
  | nil => intro v; unfold W; split <;> simp
  | cons p t ih =>
    intro v
    have h1 := ih v; have h2 := ih (v - p); have h3 := ih (v + p)
    rw [W, stepW, List.length_cons, Nat.pow_succ]
    omega
theorem W_far (q : List Int) (hq : ∀ x ∈ q, 0 ≤ x) : ∀ v, (q.sum < v ∨ v < - q.sum) → W q v = 0 := by
  induction q with
  | nil => intro v h; unfold W; rw [if_neg (by simp at h; omega)]
  | cons p t ih =>
    intro v h
    have hp := hq p List.mem_cons_self
    have ht : ∀ x ∈ t, 0 ≤ x := fun x hx => hq x (List.mem_cons_of_mem _ hx)
    rw [List.sum_cons] at h
    rw [W, stepW, ih ht v (by omega), ih ht (v - p) (by omega), ih ht (v + p) (by omega)]
/-- A function of the values from -S to S, as a list. -/
def tabI {α : Type} (f : Int → α) (S : Nat) : List α := (List.range (2 * S + 1)).map fun i : Nat => f ((i : Int) - S)
theorem tabI_length {α : Type} (f : Int → α) (S : Nat) : (tabI f S).length = 2 * S + 1 := by simp [tabI]
theorem tabI_get {α : Type} (f : Int → α) (S i : Nat) (d : α) (h : i < 2 * S + 1) : (tabI f S).getD i d = f ((i : Int) - S) := by
  simp [tabI, List.getD, List.getElem?_range h]
theorem tabI_set {α : Type} (f : Int → α) (S i : Nat) (x : α) : (tabI f S).set i x = tabI (fun v => if v = (i : Int) - S then x else f v) S := by
  refine List.ext_getElem (by simp [tabI]) fun j h1 h2 => ?_
  rw [List.getElem_set]
  simp only [tabI, List.getElem_map, List.getElem_range]
  by_cases e : i = j
  · subst e; rw [if_pos rfl, if_pos rfl]
  · rw [if_neg e, if_neg (by omega)]
theorem tabI_congr {α : Type} (f g : Int → α) (S : Nat) (h : ∀ v : Int, -(S : Int) ≤ v → v ≤ S → f v = g v) : tabI f S = tabI g S := by
  unfold tabI
  exact List.map_congr_left fun i hi => by have := List.mem_range.1 hi; exact h _ (by omega) (by omega)
theorem rd_tabI (f : Int → Nat) (S i : Nat) (h : i < 2 * S + 1) : rd (tabI (fun v => (f v : Int)) S) (i : Int) = (f ((i : Int) - S) : Int) := by
  rw [rd_nat, tabI_get _ _ _ _ h]
/-- A function below a value; zero from there on. -/
def low (f : Int → Nat) (a v : Int) : Nat := if v < a then f v else 0
theorem low_up (f : Int → Nat) (a v : Int) : low f (a + 1) v = low f a v + if v = a then f a else 0 := by
  unfold low
  by_cases h : v = a
  · subst h; rw [if_pos (by omega), if_neg (by omega), if_pos rfl]; omega
  · by_cases h2 : v < a
    · rw [if_pos (by omega), if_pos h2, if_neg h]; omega
    · rw [if_neg (by omega), if_neg h2, if_neg h]
theorem ways_in (l : List Int) (len : Int) (i : Nat) (hi8 : i ≤ 100) (S : Nat) (hS2 : S ≤ 200000) (Wf : Int → Nat) (p : Nat) (hb : ∀ v, Wf v ≤ 3486784401) (hfar : ∀ v, 0 < Wf v → -(S : Int) ≤ v - p ∧ v + p ≤ S ∧ 1 ≤ p) (r : List Int) (h : Ev (fun k => spec_siWays.l0 k (S : Int) (tabI (fun v => (stepW p Wf v : Int)) S) l len ((i + 1 : Nat) : Int)) r) (d : Nat) : ∀ a : Nat, 2 * S + 1 - a = d → a ≤ 2 * S + 1 →
    Ev (fun k => spec_siWays.l1 k (S : Int) (p : Int) (tabI (fun v => (stepW p (low Wf ((a : Int) - S)) v : Int)) S) l len (i : Int) (tabI (fun v => (Wf v : Int)) S) ((2 * S + 1 : Nat) : Int) (a : Int)) r := by
  induction d with
  | zero =>
    intro a hd ha
    obtain rfl : a = 2 * S + 1 := by omega
    refine Ev.step (fun k => ?_) h
    have e : tabI (fun v => (stepW p (low Wf (((2 * S + 1 : Nat) : Int) - S)) v : Int)) S = tabI (fun v => (stepW p Wf v : Int)) S := by
      refine tabI_congr _ _ _ fun v h1 h2 => ?_
      have hz : ∀ u, low Wf (((2 * S + 1 : Nat) : Int) - S) u = Wf u := fun u => by
        unfold low
        by_cases hu : u < ((2 * S + 1 : Nat) : Int) - S
        · rw [if_pos hu]
        · rw [if_neg hu]
          cases hw : Wf u with
          | zero => rfl
          | succ n => have := hfar u (by omega); omega
      unfold stepW
      rw [hz, hz, hz]
    rw [e, spec_siWays.l1, if_neg (by omega), w64 (by omega) (by omega)]
    rfl
  | succ d ih =>
    intro a hd ha
    have h1 := ih (a + 1) (by omega) (by omega)
    refine Ev.step (fun k => ?_) h1
    have hk := hb ((a : Int) - S)
    have hlo : ∀ u, low Wf ((a : Int) - S) u ≤ 3486784401 := fun u => by unfold low; split; exact hb u; omega
    have hst : ∀ u, stepW (p : Int) (low Wf ((a : Int) - S)) u ≤ 10460353203 := fun u => by
      have := hlo u; have := hlo (u - (p : Int)); have := hlo (u + (p : Int)); unfold stepW; omega
    rw [spec_siWays.l1, if_pos (by omega), if_pos (by omega), if_pos (by rw [tabI_length]; omega), rd_tabI _ _ _ (by omega)]
    cases hw : Wf ((a : Int) - S) with
    | zero =>
      rw [if_neg (by omega), w64 (x := (a : Int) + 1) (by omega) (by omega)]
      have e : tabI (fun v => (stepW (p : Int) (low Wf (((a + 1 : Nat) : Int) - S)) v : Int)) S = tabI (fun v => (stepW (p : Int) (low Wf ((a : Int) - S)) v : Int)) S := by
        refine tabI_congr _ _ _ fun v _ _ => ?_
        have hz : ∀ u, low Wf (((a + 1 : Nat) : Int) - S) u = low Wf ((a : Int) - S) u := fun u => by
          rw [show ((a + 1 : Nat) : Int) - S = ((a : Int) - S) + 1 by omega, low_up, hw]; simp
        unfold stepW
        rw [hz, hz, hz]
      rw [e]
      rfl
    | succ n =>
      have hfa := hfar ((a : Int) - S) (by omega)
      have hK : Wf ((a : Int) - S) ≤ 3486784401 := hb _
      rw [hw] at hK
      have i2 : wrap64 ((a : Int) + (p : Int)) = ((a + p : Nat) : Int) := by rw [w64 (by omega) (by omega)]; rfl
      have i3 : wrap64 ((a : Int) - (p : Int)) = ((a - p : Nat) : Int) := by rw [w64 (by omega) (by omega)]; omega
      have i4 : wrap64 ((a : Int) + 1) = ((a + 1 : Nat) : Int) := by rw [w64 (by omega) (by omega)]; rfl
      rw [i2, i3, i4]
      clear i2 i3 i4
      have hL : ∀ f : Int → Int, (tabI f S).length = 2 * S + 1 := fun f => tabI_length f S
      have hR : ∀ (f : Int → Int) (j : Nat), j < 2 * S + 1 → rd (tabI f S) (j : Int) = f ((j : Int) - S) := fun f j hj => by rw [rd_nat, tabI_get _ _ _ _ hj]
      rw [if_pos (by omega), if_pos (by rw [hL]; omega), hR _ _ (by omega), Option.bind_some, if_pos (by omega), if_pos (by rw [hL]; omega), Int.toNat_natCast, tabI_set, hR _ _ (by omega), Option.bind_some, if_pos (by omega), if_pos (by rw [hL]; omega), Int.toNat_natCast, tabI_set, hR _ _ (by omega), Int.toNat_natCast, tabI_set]
      refine congrArg (fun T => spec_siWays.l1 k (S : Int) (p : Int) T l len (i : Int) (tabI (fun v => (Wf v : Int)) S) ((2 * S + 1 : Nat) : Int) ((a + 1 : Nat) : Int)) (tabI_congr _ _ _ fun v hv1 hv2 => ?_)
      have eA : ((a + 1 : Nat) : Int) - S = ((a : Int) - S) + 1 := by omega
      have eP : ((a + p : Nat) : Int) - S = (a : Int) - S + p := by omega
      have eM : ((a - p : Nat) : Int) - S = (a : Int) - S - p := by omega
      rw [eA, eP, eM]
      clear eA eP eM
      have hp1 : (1 : Int) ≤ p := by omega
      generalize (a : Int) - S = A at *
      have hr : ∀ v, stepW p (low Wf (A + 1)) v = stepW p (low Wf A) v + ((if v = A then n + 1 else 0) + (if v - p = A then n + 1 else 0) + (if v + p = A then n + 1 else 0)) := fun v => by
        clear h1 ih hK hk hlo hst
        unfold stepW
        rw [low_up, low_up, low_up, hw]
        generalize low Wf A v = x1
        generalize low Wf A (v - p) = x2
        generalize low Wf A (v + p) = x3
        generalize (if v = A then n + 1 else 0) = x4
        generalize (if v - p = A then n + 1 else 0) = x5
        generalize (if v + p = A then n + 1 else 0) = x6
        omega
      rw [hr]
      have w : ∀ u, wrap64 ((stepW p (low Wf A) u : Int) + ((n + 1 : Nat) : Int)) = (stepW p (low Wf A) u : Int) + ((n + 1 : Nat) : Int) := fun u => by
        have := hst u
        rw [w64 (by omega) (by omega)]
      have n1 : ¬ (A + (p : Int) = A) := by omega
      have n2 : ¬ (A - (p : Int) = A + p) := by omega
      have n3 : ¬ (A - (p : Int) = A) := by omega
      simp only [n1, n2, n3, if_false, w]
      by_cases c1 : v = A - p
      · subst c1
        rw [if_pos rfl, if_neg n3, if_neg (show ¬ (A - (p : Int) - p = A) by omega), if_pos (show A - (p : Int) + p = A by omega)]
        push_cast; omega
      · rw [if_neg c1]
        by_cases c2 : v = A + p
        · subst c2
          rw [if_pos rfl, if_neg n1, if_pos (show A + (p : Int) - p = A by omega), if_neg (show ¬ (A + (p : Int) + p = A) by omega)]
          push_cast; omega
        · rw [if_neg c2]
          by_cases c3 : v = A
          · subst c3
            rw [if_pos rfl, if_pos rfl, if_neg (show ¬ (v - (p : Int) = v) by omega), if_neg n1]
            push_cast; omega
          · rw [if_neg c3, if_neg c3, if_neg (show ¬ (v - (p : Int) = A) by omega), if_neg (show ¬ (v + (p : Int) = A) by omega)]
            push_cast; omega
section
variable (l : List Int) (hl : l.length ≤ 20) (hc : ∀ x ∈ l, 1 ≤ x ∧ x ≤ 10000) (S : Nat) (hS : l.sum = (S : Int)) (hS2 : S ≤ 200000)
include hc hS
/-- Where the signs of some of the pieces have a value, one piece more stays within the table. -/
theorem take_far (i : Nat) (hi : i < l.length) (v : Int) (h : 0 < W (l.take i).reverse v) : -(S : Int) ≤ v - l[i] ∧ v + l[i] ≤ S ∧ 1 ≤ l[i] := by
  have hci := hc l[i] (List.getElem_mem hi)
  have h1 : ((l.take i).reverse).sum = (l.take i).sum := List.sum_reverse _
  have h2 : l.sum = (l.take i).sum + (l.drop i).sum := by rw [← List.sum_append, List.take_append_drop]
  have h3 : (l.drop i).sum = l[i] + (l.drop (i + 1)).sum := by rw [List.drop_eq_getElem_cons hi, List.sum_cons]
  have h4 := sum_nonneg (l.drop (i + 1)) (fun x hx => by have := hc x (List.mem_of_mem_drop hx); omega)
  have hf : ¬ (((l.take i).reverse).sum < v ∨ v < - ((l.take i).reverse).sum) := fun hh => by
    have := W_far (l.take i).reverse (fun x hx => by have := hc x (List.mem_of_mem_take (List.mem_reverse.1 hx)); omega) v hh
    omega
  omega
include hl hS2 in
theorem ways_out (d : Nat) : ∀ i : Nat, l.length - i = d → i ≤ l.length →
    Ev (fun k => spec_siWays.l0 k (S : Int) (tabI (fun v => (W (l.take i).reverse v : Int)) S) l (l.length : Int) (i : Int)) (tabI (fun v => (W l.reverse v : Int)) S) := by
  induction d with
  | zero =>
    intro i hd hi
    refine Ev.one fun k => ?_
    rw [spec_siWays.l0, if_neg (by omega), List.take_of_length_le (by omega)]
  | succ d ih =>
    intro i hd hi
    have hil : i < l.length := by omega
    have hci := hc l[i] (List.getElem_mem hil)
    obtain ⟨p, hp⟩ : ∃ p : Nat, l[i] = p := ⟨l[i].toNat, by omega⟩
    have htk : (l.take (i + 1)).reverse = (p : Int) :: (l.take i).reverse := by rw [List.take_succ_eq_append_getElem hil, List.reverse_append, hp]; rfl
    have ih1 := ih (i + 1) (by omega) (by omega)
    rw [htk] at ih1
    have hfar : ∀ v, 0 < W (l.take i).reverse v → -(S : Int) ≤ v - p ∧ v + p ≤ S ∧ 1 ≤ p := fun v hv => by
      have := take_far l hc S hS i hil v hv
      rw [hp] at this
      omega
    have hb : ∀ v, W (l.take i).reverse v ≤ 3486784401 := fun v => Nat.le_trans (W_le _ v) (show 3 ^ _ ≤ 3 ^ 20 from Nat.pow_le_pow_right (by omega) (by rw [List.length_reverse, List.length_take]; omega))
    have h1 := ways_in l (l.length : Int) i (by omega) S hS2 (W (l.take i).reverse) p hb hfar _ ih1 (2 * S + 1) 0 (by omega) (by omega)
    clear ih ih1 hb
    have e : tabI (fun v => (stepW p (low (W (l.take i).reverse) (((0 : Nat) : Int) - S)) v : Int)) S = List.replicate (2 * S + 1) 0 := by
      have hz : tabI (fun v => (stepW p (low (W (l.take i).reverse) (((0 : Nat) : Int) - S)) v : Int)) S = tabI (fun _ => (0 : Int)) S := by
        refine tabI_congr _ _ _ fun v h3 h4 => ?_
        have hz : ∀ u, low (W (l.take i).reverse) (((0 : Nat) : Int) - S) u = 0 := fun u => by
          unfold low
          by_cases hu : u < ((0 : Nat) : Int) - S
          · rw [if_pos hu]
            cases hw : W (l.take i).reverse u with
            | zero => rfl
            | succ n => have := hfar u (by omega); omega
          · rw [if_neg hu]
        unfold stepW
        rw [hz, hz, hz]; rfl
      rw [hz]
      simp [tabI, List.map_const']
    rw [e] at h1
    refine Ev.step (fun k => ?_) h1
    have w1 : wrap64 (wrap64 (2 * (S : Int)) + 1) = ((2 * S + 1 : Nat) : Int) := by rw [w64 (x := 2 * (S : Int)) (by omega) (by omega), w64 (by omega) (by omega)]; rfl
    rw [spec_siWays.l0, if_pos (by omega), if_pos (by omega), if_pos (by omega), w1, if_pos (by omega), if_pos (by omega), rd_eq l i hil, hp, Int.toNat_natCast, tabI_length]
    rfl
end
/-- The reference's table. -/
theorem siWays_ev (l : List Int) (h : piecesB l = true) : Ev (fun k => spec_siWays.f k l) (tabI (fun v => (W l.reverse v : Int)) l.sum.toNat) := by
  have hs := pieces_sum h
  have hb := pieces_mem h
  have hl := pieces_len h
  obtain ⟨S, hS⟩ : ∃ S : Nat, l.sum = S := ⟨l.sum.toNat, by omega⟩
  rw [hS, Int.toNat_natCast]
  unfold spec_siWays.f
  refine Ev.bind (piSum_ev l (by omega) (fun x hx => by have := hb x hx; omega) (by omega)) ?_
  have w1 : wrap64 (wrap64 (2 * (S : Int)) + 1) = ((2 * S + 1 : Nat) : Int) := by rw [w64 (x := 2 * (S : Int)) (by omega) (by omega), w64 (by omega) (by omega)]; rfl
  rw [hS, w1, Int.toNat_natCast]
  have h1 := ways_out l hl hb S hS (by omega) l.length 0 (by omega) (by omega)
  have e : (List.replicate (2 * S + 1) (0 : Int)).set S 1 = tabI (fun v => (W (l.take 0).reverse v : Int)) S := by
    have : List.replicate (2 * S + 1) (0 : Int) = tabI (fun _ => (0 : Int)) S := by simp [tabI, List.map_const']
    rw [this, tabI_set]
    refine tabI_congr _ _ _ fun v _ _ => ?_
    by_cases hv : v = 0
    · subst hv; rw [if_pos (by omega)]; rfl
    · rw [if_neg (by omega)]; simp [W, hv]
  rw [← e] at h1
  refine Ev.if_pos' (by omega) (Ev.if_pos' (by omega) (Ev.some_bind (Ev.if_pos' (by omega) (Ev.if_pos' (by simp; omega) ?_))))
  rw [Int.toNat_natCast]
  exact h1

end Go.Proofs.Ytobcoaafbekhaaa.Pure

/- Plain lemmas: the program's table of the values of pieces. -/
namespace Go.Proofs.Ytobcoaafbekhaaa.Pure
open Go.RowKit Go.Proofs.Ytobcoaafbekhaaa.Gk Go.Proofs.YtobcoaafbekhaaaW.PrintWords Go.Proofs.YtobcoaafbekhaaaW.PrintLast

/-- What is known of the next table when the values below A are done. -/
def nextB (p : Int) (f : Int → Nat) (A v : Int) : Bool := decide (0 < f v + low f A (v - p) + low f A (v + p))
theorem rdOf_tabI (f : Int → Bool) (S i : Nat) (h : i < 2 * S + 1) : rdOf false (tabI f S) (i : Int) = f ((i : Int) - S) := by
  unfold rdOf
  rw [Int.toNat_natCast, tabI_get _ _ _ _ h]
theorem reach_in (l : List Int) (len : Int) (i : Nat) (hi8 : i ≤ 100) (S : Nat) (hS2 : S ≤ 200000) (Wf : Int → Nat) (p : Nat) (hfar : ∀ v, 0 < Wf v → -(S : Int) ≤ v - p ∧ v + p ≤ S ∧ 1 ≤ p) (r : List Bool) (h : Ev (fun k => impl_reachable.l0 k (S : Int) (tabI (fun v => decide (0 < stepW p Wf v)) S) l len ((i + 1 : Nat) : Int)) r) (d : Nat) : ∀ a : Nat, 2 * S + 1 - a = d → a ≤ 2 * S + 1 →
    Ev (fun k => impl_reachable.l1 k (S : Int) (p : Int) (tabI (nextB p Wf ((a : Int) - S)) S) l len (i : Int) (tabI (fun v => decide (0 < Wf v)) S) ((2 * S + 1 : Nat) : Int) (a : Int)) r := by
  induction d with
  | zero =>
    intro a hd ha
    obtain rfl : a = 2 * S + 1 := by omega
    refine Ev.step (fun k => ?_) h
    have e : tabI (nextB p Wf (((2 * S + 1 : Nat) : Int) - S)) S = tabI (fun v => decide (0 < stepW p Wf v)) S := by
      refine tabI_congr _ _ _ fun v h1 h2 => ?_
      have hz : ∀ u, low Wf (((2 * S + 1 : Nat) : Int) - S) u = Wf u := fun u => by
        unfold low
        by_cases hu : u < ((2 * S + 1 : Nat) : Int) - S
        · rw [if_pos hu]
        · rw [if_neg hu]
          cases hw : Wf u with
          | zero => rfl
          | succ n => have := hfar u (by omega); omega
      unfold nextB stepW
      rw [hz, hz]
    rw [e, impl_reachable.l1, if_neg (by omega), w64 (by omega) (by omega)]
    rfl
  | succ d ih =>
    intro a hd ha
    have h1 := ih (a + 1) (by omega) (by omega)
    refine Ev.step (fun k => ?_) h1
    rw [impl_reachable.l1, if_pos (by omega), if_pos (by omega), if_pos (by rw [tabI_length]; omega), rdOf_tabI _ _ _ (by omega)]
    have eA : ((a + 1 : Nat) : Int) - S = ((a : Int) - S) + 1 := by omega
    cases hw : Wf ((a : Int) - S) with
    | zero =>
      rw [if_neg (by simp), w64 (x := (a : Int) + 1) (by omega) (by omega)]
      have e : tabI (nextB p Wf (((a + 1 : Nat) : Int) - S)) S = tabI (nextB p Wf ((a : Int) - S)) S := by
        refine tabI_congr _ _ _ fun v _ _ => ?_
        have hz : ∀ u, low Wf (((a + 1 : Nat) : Int) - S) u = low Wf ((a : Int) - S) u := fun u => by
          rw [eA, low_up, hw]; simp
        unfold nextB
        rw [hz, hz]
      rw [e]
      rfl
    | succ n =>
      have hfa := hfar ((a : Int) - S) (by omega)
      have i2 : wrap64 ((a : Int) + (p : Int)) = ((a + p : Nat) : Int) := by rw [w64 (by omega) (by omega)]; rfl
      have i3 : wrap64 ((a : Int) - (p : Int)) = ((a - p : Nat) : Int) := by rw [w64 (by omega) (by omega)]; omega
      have i4 : wrap64 ((a : Int) + 1) = ((a + 1 : Nat) : Int) := by rw [w64 (by omega) (by omega)]; rfl
      rw [i2, i3, i4]
      clear i2 i3 i4
      rw [if_pos (by simp), if_pos (by omega), if_pos (by rw [tabI_length]; omega), if_pos (by omega), if_pos (by rw [tabI_length]; omega), Int.toNat_natCast, Int.toNat_natCast, tabI_set, tabI_set]
      refine congrArg (fun T => impl_reachable.l1 k (S : Int) (p : Int) T l len (i : Int) (tabI (fun v => decide (0 < Wf v)) S) ((2 * S + 1 : Nat) : Int) ((a + 1 : Nat) : Int)) (tabI_congr _ _ _ fun v hv1 hv2 => ?_)
      have eP : ((a + p : Nat) : Int) - S = (a : Int) - S + p := by omega
      have eM : ((a - p : Nat) : Int) - S = (a : Int) - S - p := by omega
      rw [eA, eP, eM]
      have hp1 : (1 : Int) ≤ p := by omega
      clear eA eP eM h1 ih h hd ha hfa
      generalize (a : Int) - S = A at *
      unfold nextB
      rw [low_up, low_up, hw]
      by_cases c1 : v = A + p
      · rw [if_pos c1, if_pos (show v - (p : Int) = A by omega)]
        exact (decide_eq_true (by omega)).symm
      · rw [if_neg c1, if_neg (show ¬ (v - (p : Int) = A) by omega)]
        by_cases c2 : v = A - p
        · rw [if_pos c2, if_pos (show v + (p : Int) = A by omega)]
          exact (decide_eq_true (by omega)).symm
        · rw [if_neg c2, if_neg (show ¬ (v + (p : Int) = A) by omega)]
          rfl
section
variable (l : List Int) (hl : l.length ≤ 20) (hc : ∀ x ∈ l, 1 ≤ x ∧ x ≤ 10000) (S : Nat) (hS : l.sum = (S : Int)) (hS2 : S ≤ 200000)
include hl hc hS hS2
theorem reach_out (d : Nat) : ∀ i : Nat, l.length - i = d → i ≤ l.length →
    Ev (fun k => impl_reachable.l0 k (S : Int) (tabI (fun v => decide (0 < W (l.take i).reverse v)) S) l (l.length : Int) (i : Int)) ((tabI (fun v => decide (0 < W l.reverse v)) S).drop S) := by
  induction d with
  | zero =>
    intro i hd hi
    refine Ev.one fun k => ?_
    rw [impl_reachable.l0, if_neg (by omega), if_pos (by omega), if_pos (by rw [tabI_length]; omega), List.take_of_length_le (by omega), Int.toNat_natCast]
  | succ d ih =>
    intro i hd hi
    have hil : i < l.length := by omega
    have hci := hc l[i] (List.getElem_mem hil)
    obtain ⟨p, hp⟩ : ∃ p : Nat, l[i] = p := ⟨l[i].toNat, by omega⟩
    have htk : (l.take (i + 1)).reverse = (p : Int) :: (l.take i).reverse := by rw [List.take_succ_eq_append_getElem hil, List.reverse_append, hp]; rfl
    have ih1 := ih (i + 1) (by omega) (by omega)
    rw [htk] at ih1
    have hfar : ∀ v, 0 < W (l.take i).reverse v → -(S : Int) ≤ v - p ∧ v + p ≤ S ∧ 1 ≤ p := fun v hv => by
      have := take_far l hc S hS i hil v hv
      rw [hp] at this
      omega
    have h1 := reach_in l (l.length : Int) i (by omega) S hS2 (W (l.take i).reverse) p hfar _ ih1 (2 * S + 1) 0 (by omega) (by omega)
    clear ih ih1
    have e : tabI (nextB p (W (l.take i).reverse) (((0 : Nat) : Int) - S)) S = tabI (fun v => decide (0 < W (l.take i).reverse v)) S := by
      refine tabI_congr _ _ _ fun v h3 h4 => ?_
      have hz : ∀ u, low (W (l.take i).reverse) (((0 : Nat) : Int) - S) u = 0 := fun u => by
        unfold low
        by_cases hu : u < ((0 : Nat) : Int) - S
        · rw [if_pos hu]
          cases hw : W (l.take i).reverse u with
          | zero => rfl
          | succ n => have := hfar u (by omega); omega
        · rw [if_neg hu]
      unfold nextB
      rw [hz, hz]; rfl
    rw [e] at h1
    have hcl : slices_Clone_bool_bool.f (tabI (fun v => decide (0 < W (l.take i).reverse v)) S) = some (tabI (fun v => decide (0 < W (l.take i).reverse v)) S) := by
      unfold slices_Clone_bool_bool.f
      rw [if_pos (by rw [tabI_length]; omega)]
    refine Ev.step (fun k => ?_) h1
    rw [impl_reachable.l0, if_pos (by omega), if_pos (by omega), if_pos (by omega), hcl, Option.bind_some, rd_eq l i hil, hp, tabI_length]
    rfl
end
/-- The values from 0 on. -/
def half {α : Type} (f : Int → α) (S : Nat) : List α := (List.range (S + 1)).map fun j : Nat => f (j : Int)
theorem half_length {α : Type} (f : Int → α) (S : Nat) : (half f S).length = S + 1 := by simp [half]
theorem half_get {α : Type} (f : Int → α) (S i : Nat) (d : α) (h : i ≤ S) : (half f S).getD i d = f (i : Int) := by
  simp [half, List.getD, List.getElem?_range (show i < S + 1 by omega)]
theorem tabI_drop {α : Type} (f : Int → α) (S : Nat) : (tabI f S).drop S = half f S := by
  refine List.ext_getElem (by simp [tabI, half]; omega) fun i h1 h2 => ?_
  rw [List.getElem_drop]
  simp only [tabI, half, List.getElem_map, List.getElem_range]
  congr 1
  omega
theorem reachable_ev (l : List Int) (h : piecesB l = true) : Ev (fun k => impl_reachable.f k l) (half (fun v => decide (0 < W l.reverse v)) l.sum.toNat) := by
  have hs := pieces_sum h
  have hb := pieces_mem h
  have hl := pieces_len h
  obtain ⟨S, hS⟩ : ∃ S : Nat, l.sum = S := ⟨l.sum.toNat, by omega⟩
  rw [hS, Int.toNat_natCast, ← tabI_drop]
  unfold impl_reachable.f
  refine Ev.bind (total_ev l (by omega) (fun x hx => by have := hb x hx; omega) (by omega)) ?_
  have w1 : wrap64 (wrap64 (2 * (S : Int)) + 1) = ((2 * S + 1 : Nat) : Int) := by rw [w64 (x := 2 * (S : Int)) (by omega) (by omega), w64 (by omega) (by omega)]; rfl
  rw [hS, w1, Int.toNat_natCast]
  have h1 := reach_out l hl hb S hS (by omega) l.length 0 (by omega) (by omega)
  have e : (List.replicate (2 * S + 1) false).set S true = tabI (fun v => decide (0 < W (l.take 0).reverse v)) S := by
    have : List.replicate (2 * S + 1) false = tabI (fun _ => false) S := by simp [tabI, List.map_const']
    rw [this, tabI_set]
    refine tabI_congr _ _ _ fun v _ _ => ?_
    by_cases hv : v = 0
    · subst hv; rw [if_pos (by omega)]; rfl
    · rw [if_neg (by omega)]; simp [W, hv]
  rw [← e] at h1
  refine Ev.if_pos' (by omega) (Ev.if_pos' (by omega) (Ev.some_bind (Ev.if_pos' (by omega) (Ev.if_pos' (by simp; omega) ?_))))
  rw [Int.toNat_natCast]
  exact h1
theorem rd_half (f : Int → Nat) (S i : Nat) (h : i ≤ S) : rd (half (fun v => (f v : Int)) S) (i : Int) = (f (i : Int) : Int) := by
  rw [rd_nat, half_get _ _ _ _ h]
theorem rdOf_half (f : Int → Bool) (S i : Nat) (h : i ≤ S) : rdOf false (half f S) (i : Int) = f (i : Int) := by
  unfold rdOf
  rw [Int.toNat_natCast, half_get _ _ _ _ h]
theorem W_zero (q : List Int) (hq : ∀ x ∈ q, 0 ≤ x) : 0 < W q 0 := by
  induction q with
  | nil => simp [W]
  | cons p t ih =>
    have := ih (fun x hx => hq x (List.mem_cons_of_mem _ hx))
    rw [W, stepW]
    omega

end Go.Proofs.Ytobcoaafbekhaaa.Pure

/- Plain lemmas: the run for both sides, by the reference and by the program. -/
namespace Go.Proofs.Ytobcoaafbekhaaa.Pure
open Go.RowKit Go.Proofs.Ytobcoaafbekhaaa.Gk Go.Proofs.YtobcoaafbekhaaaW.PrintWords Go.Proofs.YtobcoaafbekhaaaW.PrintLast

def smallB (l : List Int) : Bool := piecesB l && decide (l.sum ≤ 10000)
theorem siSmall_ev (l : List Int) (hl : l.length ≤ 35184372088832) : Ev (fun k => spec_siSmall.f k l) (smallB l) := by
  unfold spec_siSmall.f smallB
  refine Ev.bind (piGood_ev l hl) ?_
  cases h : piecesB l with
  | false => exact Ev.if_neg' (by simp) (Ev.now _)
  | true =>
    have hs := pieces_sum h
    have hb := pieces_mem h
    exact Ev.if_pos' rfl (Ev.bind (piSum_ev l hl (fun x hx => by have := hb x hx; omega) (by omega)) (Ev.now _))
theorem areTogether_ev (l : List Int) (hl : l.length ≤ 35184372088832) : Ev (fun k => impl_areTogether.f k l) (smallB l) := by
  unfold impl_areTogether.f smallB
  refine Ev.bind (ArePieces_ev l hl) ?_
  cases h : piecesB l with
  | false => exact Ev.if_neg' (by simp) (Ev.now _)
  | true =>
    have hs := pieces_sum h
    have hb := pieces_mem h
    exact Ev.if_pos' rfl (Ev.bind (total_ev l hl (fun x hx => by have := hb x hx; omega) (by omega)) (Ev.now _))
/-- How far the values go without a gap from r on, d more at most. -/
def runV (f : Int → Nat) : Nat → Nat → Nat
  | 0, r => r
  | d + 1, r => if 0 < f ((r + 1 : Nat) : Int) then runV f d (r + 1) else r
theorem runV_le (f : Int → Nat) (d : Nat) : ∀ r, r ≤ runV f d r ∧ runV f d r ≤ r + d := by
  induction d with
  | zero => intro r; exact ⟨Nat.le_refl _, Nat.le_refl _⟩
  | succ d ih =>
    intro r
    have := ih (r + 1)
    unfold runV
    split <;> omega
theorem spec_run (l : List Int) (S : Nat) (hS : S ≤ 200000) (hps : Ev (fun k => spec_piSum.f k l) (S : Int)) (f : Int → Nat) (d : Nat) : ∀ r : Nat, S - r = d → r ≤ S →
    Ev (fun k => spec_siRun.l0 k l (tabI (fun v => (f v : Int)) S) (r : Int)) (runV f d r : Int) := by
  induction d with
  | zero =>
    intro r hd hr
    refine Ev.step (f := fun k => (spec_piSum.f k l).bind fun t => if (r : Int) < t then ((spec_piSum.f k l).bind fun t376 => (if 0 ≤ (wrap64 ((wrap64 (t376 + (r : Int))) + 1)) then (if (wrap64 ((wrap64 (t376 + (r : Int))) + 1)) < (((tabI (fun v => (f v : Int)) S)).length : Int) then (if (rd (tabI (fun v => (f v : Int)) S) (wrap64 ((wrap64 (t376 + (r : Int))) + 1))) > 0 then (spec_siRun.l0 k l (tabI (fun v => (f v : Int)) S) (wrap64 ((r : Int) + 1))) else (some (r : Int))) else (none)) else (none))) else some (r : Int)) (fun k => by rw [spec_siRun.l0]) ?_
    exact Ev.bind hps (Ev.if_neg' (by omega) (Ev.now _))
  | succ d ih =>
    intro r hd hr
    have h := ih (r + 1) (by omega) (by omega)
    refine Ev.step (f := fun k => (spec_piSum.f k l).bind fun t => if (r : Int) < t then ((spec_piSum.f k l).bind fun t376 => (if 0 ≤ (wrap64 ((wrap64 (t376 + (r : Int))) + 1)) then (if (wrap64 ((wrap64 (t376 + (r : Int))) + 1)) < (((tabI (fun v => (f v : Int)) S)).length : Int) then (if (rd (tabI (fun v => (f v : Int)) S) (wrap64 ((wrap64 (t376 + (r : Int))) + 1))) > 0 then (spec_siRun.l0 k l (tabI (fun v => (f v : Int)) S) (wrap64 ((r : Int) + 1))) else (some (r : Int))) else (none)) else (none))) else some (r : Int)) (fun k => by rw [spec_siRun.l0]) ?_
    refine Ev.bind hps (Ev.if_pos' (by omega) (Ev.bind hps ?_))
    have w1 : wrap64 (wrap64 ((S : Int) + (r : Int)) + 1) = ((S + r + 1 : Nat) : Int) := by rw [w64 (x := (S : Int) + (r : Int)) (by omega) (by omega), w64 (by omega) (by omega)]; push_cast; rfl
    have w2 : wrap64 ((r : Int) + 1) = ((r + 1 : Nat) : Int) := by rw [w64 (by omega) (by omega)]; rfl
    rw [w1, w2, rd_tabI _ _ _ (by omega), tabI_length, show ((S + r + 1 : Nat) : Int) - S = ((r + 1 : Nat) : Int) by omega]
    clear w1 w2
    unfold runV
    refine Ev.if_pos' (by omega) (Ev.if_pos' (by omega) ?_)
    by_cases hp : 0 < f ((r + 1 : Nat) : Int)
    · rw [if_pos hp]; exact Ev.if_pos' (by omega) h
    · rw [if_neg hp]; exact Ev.if_neg' (by omega) (Ev.now _)
theorem impl_run (S : Nat) (hS : S ≤ 200000) (f : Int → Nat) (d : Nat) : ∀ r : Nat, S - r = d → r ≤ S →
    Ev (fun k => slices_Index_bool_bool.l0 k (half (fun v => decide (0 < f v)) S) false ((S + 1 : Nat) : Int) ((r + 1 : Nat) : Int)) (if runV f d r = S then -1 else (runV f d r : Int) + 1) := by
  induction d with
  | zero =>
    intro r hd hr
    refine Ev.one fun k => ?_
    have e : runV f 0 r = S := by unfold runV; omega
    rw [slices_Index_bool_bool.l0, if_neg (by omega), if_pos e]
  | succ d ih =>
    intro r hd hr
    have h := ih (r + 1) (by omega) (by omega)
    have pre : ∀ k, slices_Index_bool_bool.l0 (k + 1) (half (fun v => decide (0 < f v)) S) false ((S + 1 : Nat) : Int) ((r + 1 : Nat) : Int) = if 0 < f ((r + 1 : Nat) : Int) then slices_Index_bool_bool.l0 k (half (fun v => decide (0 < f v)) S) false ((S + 1 : Nat) : Int) ((r + 1 + 1 : Nat) : Int) else some ((r + 1 : Nat) : Int) := fun k => by
      rw [slices_Index_bool_bool.l0, if_pos (by omega), if_pos (by omega), if_pos (by rw [half_length]; omega), rdOf_half _ _ _ (by omega), w64 (x := ((r + 1 : Nat) : Int) + 1) (by omega) (by omega)]
      by_cases hp : 0 < f ((r + 1 : Nat) : Int)
      · rw [decide_eq_true hp, if_neg (by simp), if_pos hp]; rfl
      · rw [decide_eq_false hp, if_pos (by simp), if_neg hp]
    unfold runV
    by_cases hp : 0 < f ((r + 1 : Nat) : Int)
    · rw [if_pos hp]
      exact Ev.step (fun k => by rw [pre, if_pos hp]) h
    · rw [if_neg hp, if_neg (by omega)]
      exact Ev.one fun k => by rw [pre, if_neg hp]; rfl
/-- Both runs. -/
theorem runs_ev (l : List Int) (hp : piecesB l = true) (S : Nat) (hS : l.sum = (S : Int)) : Ev (fun k => spec_siRun.f k l) (runV (W l.reverse) S 0 : Int) ∧ Ev (fun k => impl_runBoth.f k l) (runV (W l.reverse) S 0 : Int) := by
  have hs := pieces_sum hp
  have hb := pieces_mem hp
  have hl := pieces_len hp
  have hw := siWays_ev l hp
  have hr := reachable_ev l hp
  rw [hS, Int.toNat_natCast] at hw hr
  have hps := piSum_ev l (by omega) (fun x hx => by have := hb x hx; omega) (by omega)
  have htot := total_ev l (by omega) (fun x hx => by have := hb x hx; omega) (by omega)
  rw [hS] at hps htot
  have h0 := W_zero l.reverse (fun x hx => by have := hb x (List.mem_reverse.1 hx); omega)
  have hle := runV_le (W l.reverse) S 0
  constructor
  · unfold spec_siRun.f
    exact Ev.bind hw (spec_run l S (by omega) hps (W l.reverse) S 0 (by omega) (by omega))
  · unfold impl_runBoth.f
    refine Ev.bind hr (Ev.bind (a := if runV (W l.reverse) S 0 = S then -1 else (runV (W l.reverse) S 0 : Int) + 1) ?_ ?_)
    · unfold slices_Index_bool_bool.f
      refine Ev.step (fun k => ?_) (impl_run S (by omega) (W l.reverse) S 0 (by omega) (by omega))
      rw [half_length, slices_Index_bool_bool.l0, if_pos (by omega), if_pos (by omega), if_pos (by rw [half_length]; omega), show (0 : Int) = ((0 : Nat) : Int) by rfl, rdOf_half _ _ _ (by omega), if_neg (by simp [h0]), w64 (x := ((0 : Nat) : Int) + 1) (by omega) (by omega)]
      rfl
    · by_cases he : runV (W l.reverse) S 0 = S
      · rw [if_pos he]
        rw [he]
        exact Ev.if_pos' (by omega) (Ev.bind htot (Ev.now _))
      · rw [if_neg he]
        refine Ev.if_neg' (by omega) ?_
        rw [w64 (by omega) (by omega), show (runV (W l.reverse) S 0 : Int) + 1 - 1 = (runV (W l.reverse) S 0 : Int) by omega]
        exact Ev.now _

end Go.Proofs.Ytobcoaafbekhaaa.Pure
