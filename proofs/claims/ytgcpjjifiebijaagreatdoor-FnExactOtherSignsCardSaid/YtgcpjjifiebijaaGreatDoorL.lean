/- Plain lemmas of several texts in one: Base, SumN, Within0, Piece0, Both0, Signs0, Area0, Bal0, Num0. -/
import Derived.Test.YtgcpjjifiebijaaGreatDoorWWords
import Derived.Test.YtgcpjjifiebijaaGreatDoorWMore
import Derived.Test.YtgcpjjifiebijaaGreatDoorGx10
import Derived.Test.YtgcpjjifiebijaaGreatDoorGx12
import Derived.Test.YtgcpjjifiebijaaGreatDoorGx1
import Derived.Test.YtgcpjjifiebijaaGreatDoorGx3
import Derived.Test.YtgcpjjifiebijaaGreatDoorGx9
import Derived.Test.YtgcpjjifiebijaaGreatDoorGx11
import Derived.Test.YtgcpjjifiebijaaGreatDoorGx8
import Derived.Test.YtgcpjjifiebijaaGreatDoorGx2
import Derived.Test.YtgcpjjifiebijaaGreatDoorGx7
import Derived.Test.YtgcpjjifiebijaaGreatDoorGx6
import Derived.Test.YtgcpjjifiebijaaGreatDoorGx4
/- Plain lemmas on the laws' own helpers: copying a list, comparing two lists. -/
namespace Go.Proofs.YtgcpjjifiebijaaGreatDoor.Pure
open Go.RowKit Go.Proofs.YtgcpjjifiebijaaGreatDoor.G Go.Proofs.YtgcpjjifiebijaaGreatDoorW.PrintWords Go.Proofs.YtgcpjjifiebijaaGreatDoorW.PrintLast

theorem Ev.eq {α : Type} {g f : Nat → Option α} {r : α} (h : ∀ k, g (k + 1) = f k) (k : Ev f r) : Ev g r := Ev.step h k
theorem Ev.pure' {α : Type} {g : Nat → Option α} {r : α} (h : ∀ k, g k = some r) : Ev g r := ⟨0, fun k _ => h k⟩
theorem Ev.one {α : Type} {g : Nat → Option α} {r : α} (h : ∀ k, g (k + 1) = some r) : Ev g r := Ev.step (f := fun _ => some r) h (Ev.now r)
theorem Ev.some_bind {α β : Type} {f : Nat → α → Option β} {a : α} {r : β} (h : Ev (fun n => f n a) r) : Ev (fun n => (some a).bind (f n)) r := h
theorem Ev.if_pos' {α : Type} {c : Prop} [Decidable c] {g f : Nat → Option α} {r : α} (hc : c) (h : Ev g r) : Ev (fun n => if c then g n else f n) r := by
  simpa only [if_pos hc] using h
theorem Ev.if_neg' {α : Type} {c : Prop} [Decidable c] {g f : Nat → Option α} {r : α} (hc : ¬ c) (h : Ev f r) : Ev (fun n => if c then g n else f n) r := by
  simpa only [if_neg hc] using h
theorem Ev.const_bind {α β : Type} {g : Option α} {f : Nat → α → Option β} {a : α} {r : β} (h : g = some a) (k : Ev (fun n => f n a) r) : Ev (fun n => g.bind (f n)) r := by
  simpa only [h, Option.bind_some] using k
/-- More rounds may be taken. -/
theorem Ev.le {α : Type} {g f : Nat → Option α} {r : α} (h : Ev g r) (hle : ∀ k, LeO (g k) (f k)) : Ev f r := by
  obtain ⟨K, hK⟩ := h
  exact ⟨K, fun k hk => hle k _ (hK k hk)⟩

theorem w64 {x : Int} (h0 : -9223372036854775808 ≤ x) (h1 : x ≤ 9223372036854775807) : wrap64 x = x := by unfold wrap64; omega
theorem rd_eq (l : List Int) (i : Nat) (h : i < l.length) : rd l (i : Int) = l[i] := by simp [rd, h]
theorem rd_nat (l : List Int) (i : Nat) : rd l (i : Int) = l.getD i 0 := rfl

theorem l1In_eq (a b c : Int) : spec_l1In.f a b c = some (decide (b ≤ a ∧ a ≤ c)) := by
  unfold spec_l1In.f
  by_cases h : a ≥ b <;> simp [h, ge_iff_le] <;> omega
theorem set_split (l : List Int) (i : Nat) (h : i < l.length) (v : Int) : l.set i v = l.take i ++ v :: l.drop (i + 1) := by
  rw [List.set_eq_take_append_cons_drop, if_pos h]

theorem toIntS_loop (l : List Int) (hl : l.length ≤ 35184372088832) (d : Nat) : ∀ (i : Nat) (acc : List Int), acc.length = l.length → l.length - i = d → i ≤ l.length → acc.take i = l.take i →
    Ev (fun k => laws_toIntS.l0 k l acc (i : Int)) l := by
  induction d with
  | zero =>
    intro i acc ha hd hi he
    have hil : i = l.length := by omega
    refine Ev.one fun k => ?_
    rw [laws_toIntS.l0, if_neg (by omega)]
    have := he; rw [hil] at this
    rw [List.take_length, ← ha, List.take_length] at this
    rw [this]
  | succ d ih =>
    intro i acc ha hd hi he
    refine Ev.step (f := fun k => laws_toIntS.l0 k l (acc.set i l[i]!) ((i + 1 : Nat) : Int)) (fun k => ?_) (ih (i + 1) _ (by simpa using ha) (by omega) (by omega) ?_)
    · rw [laws_toIntS.l0, if_pos (by omega), if_pos (by omega), if_pos (by omega), w64 (by omega) (by omega)]
      have : rd l (i : Int) = l[i]! := by rw [rd_eq l i (by omega), getElem!_pos l i (by omega)]
      rw [this]
      rfl
    · rw [getElem!_pos l i (by omega), List.take_succ_eq_append_getElem (by simp; omega), List.take_succ_eq_append_getElem (l := l) (by omega), List.take_set_of_le (by omega), he]
      simp
theorem toIntS_ev (l : List Int) (hl : l.length ≤ 35184372088832) : Ev (fun k => laws_toIntS.f k l) l := by
  unfold laws_toIntS.f
  refine Ev.if_pos' (by omega) (Ev.if_pos' (by omega) ?_)
  exact toIntS_loop l hl l.length 0 _ (by simp) (by omega) (by omega) (by simp)

theorem eqIntS_loop (a b : List Int) (hab : a.length = b.length) (hl : a.length ≤ 35184372088832) (d : Nat) : ∀ (i : Nat), a.length - i = d → i ≤ a.length →
    Ev (fun k => laws_eqIntS.l0 k a b (i : Int)) (decide (a.drop i = b.drop i)) := by
  induction d with
  | zero =>
    intro i hd hi
    refine Ev.one fun k => ?_
    rw [laws_eqIntS.l0, if_neg (by omega), List.drop_of_length_le (by omega), List.drop_of_length_le (by omega)]
    simp
  | succ d ih =>
    intro i hd hi
    have hi' : i < a.length := by omega
    have h := ih (i + 1) (by omega) (by omega)
    have hib : i < b.length := by omega
    rw [List.drop_eq_getElem_cons hi', List.drop_eq_getElem_cons hib]
    by_cases he : a[i] = b[i]
    · refine Ev.step (f := fun k => laws_eqIntS.l0 k a b ((i + 1 : Nat) : Int)) (fun k => ?_) (by simp only [he, List.cons.injEq, true_and]; exact h)
      rw [laws_eqIntS.l0, if_pos (by omega), if_pos (by omega), if_pos (by omega), if_pos (by rw [rd_eq a i hi', rd_eq b i hib, he]), w64 (by omega) (by omega)]
      rfl
    · refine Ev.one fun k => ?_
      rw [laws_eqIntS.l0, if_pos (by omega), if_pos (by omega), if_pos (by omega), if_neg (by rw [rd_eq a i hi', rd_eq b i hib]; exact he)]
      rw [decide_eq_false (fun e => he (List.cons.inj e).1)]
theorem eqIntS_ev (a b : List Int) (hl : a.length ≤ 35184372088832) : Ev (fun k => laws_eqIntS.f k a b) (decide (a = b)) := by
  unfold laws_eqIntS.f
  by_cases h : a.length = b.length
  · refine Ev.if_pos' (by omega) ?_
    simpa using eqIntS_loop a b h hl a.length 0 (by omega) (by omega)
  · refine Ev.if_neg' (by omega) ?_
    rw [decide_eq_false (fun e => h (by rw [e]))]
    exact Ev.now _
theorem eqIntS_self (a : List Int) (hl : a.length ≤ 35184372088832) : Ev (fun k => laws_eqIntS.f k a a) true := by
  simpa using eqIntS_ev a a hl

end Go.Proofs.YtgcpjjifiebijaaGreatDoor.Pure

/- Plain lemmas: bounds of a sum. -/
namespace Go.Proofs.YtgcpjjifiebijaaGreatDoor.Pure
open Go.RowKit Go.Proofs.YtgcpjjifiebijaaGreatDoor.G Go.Proofs.YtgcpjjifiebijaaGreatDoorW.PrintWords Go.Proofs.YtgcpjjifiebijaaGreatDoorW.PrintLast

theorem sum_nonneg (l : List Int) (hb : ∀ x ∈ l, 0 ≤ x) : 0 ≤ l.sum := by
  induction l with
  | nil => simp
  | cons a t ih => have := hb a List.mem_cons_self; have := ih (fun x hx => hb x (List.mem_cons_of_mem _ hx)); simp only [List.sum_cons]; omega
theorem sum_le (M : Int) (l : List Int) (hb : ∀ x ∈ l, x ≤ M) : l.sum ≤ M * l.length := by
  induction l with
  | nil => simp
  | cons a t ih =>
    have h1 := hb a List.mem_cons_self
    have h2 := ih (fun x hx => hb x (List.mem_cons_of_mem _ hx))
    have e : M * ((a :: t).length : Int) = M * (t.length : Int) + M := by rw [List.length_cons]; push_cast; rw [Int.mul_add, Int.mul_one]
    rw [List.sum_cons, e]
    omega

end Go.Proofs.YtgcpjjifiebijaaGreatDoor.Pure

/- Plain lemma: the program's test of a number between bounds. -/
namespace Go.Proofs.YtgcpjjifiebijaaGreatDoor.Pure
open Go.RowKit Go.Proofs.YtgcpjjifiebijaaGreatDoor.G Go.Proofs.YtgcpjjifiebijaaGreatDoorW.PrintWords Go.Proofs.YtgcpjjifiebijaaGreatDoorW.PrintLast

theorem within_eq (a b c : Int) : impl_within.f a b c = some (decide (b ≤ a ∧ a ≤ c)) := by
  unfold impl_within.f
  by_cases h : b ≤ a <;> simp [h]


end Go.Proofs.YtgcpjjifiebijaaGreatDoor.Pure

/- Plain lemmas: which lists are pieces, by the program and by the reference; the tables of ways; searching an increasing list. -/
namespace Go.Proofs.YtgcpjjifiebijaaGreatDoor.Pure
open Go.RowKit Go.Proofs.YtgcpjjifiebijaaGreatDoor.G Go.Proofs.YtgcpjjifiebijaaGreatDoorW.PrintWords Go.Proofs.YtgcpjjifiebijaaGreatDoorW.PrintLast

def inB (lo hi : Int) (l : List Int) : Bool := l.all fun x => decide (lo ≤ x) && decide (x ≤ hi)
theorem inB_cons (lo hi a : Int) (t : List Int) : inB lo hi (a :: t) = (decide (lo ≤ a ∧ a ≤ hi) && inB lo hi t) := by simp [inB]
theorem areWithin_eq (l : List Int) (lo hi : Int) (hl : l.length ≤ 35184372088832) : impl_areWithin.f l lo hi = some (inB lo hi l) := by
  unfold impl_areWithin.f
  rw [if_pos (by omega)]
  rfl
theorem l1All_loop (l : List Int) (lo hi : Int) (hl : l.length ≤ 35184372088832) (d : Nat) : ∀ i : Nat, l.length - i = d → i ≤ l.length →
    Ev (fun k => spec_l1All.l0 k lo hi l (l.length : Int) (i : Int)) (inB lo hi (l.drop i)) := by
  induction d with
  | zero =>
    intro i hd hi'
    rw [List.drop_of_length_le (by omega)]
    exact Ev.one fun k => by rw [spec_l1All.l0, if_neg (by omega)]; rfl
  | succ d ih =>
    intro i hd hi'
    have hil : i < l.length := by omega
    rw [List.drop_eq_getElem_cons hil, inB_cons]
    by_cases hb : lo ≤ l[i] ∧ l[i] ≤ hi
    · rw [decide_eq_true hb, Bool.true_and]
      refine Ev.step (fun k => ?_) (ih (i + 1) (by omega) (by omega))
      rw [spec_l1All.l0, if_pos (by omega), if_pos (by omega), if_pos (by omega), rd_eq l i hil, l1In_eq, decide_eq_true hb, Option.bind_some, if_pos rfl, w64 (by omega) (by omega)]
      rfl
    · rw [decide_eq_false hb, Bool.false_and]
      refine Ev.one fun k => ?_
      rw [spec_l1All.l0, if_pos (by omega), if_pos (by omega), if_pos (by omega), rd_eq l i hil, l1In_eq, decide_eq_false hb, Option.bind_some, if_neg (by simp)]
theorem l1All_ev (l : List Int) (lo hi : Int) (hl : l.length ≤ 35184372088832) : Ev (fun k => spec_l1All.f k l lo hi) (inB lo hi l) := by
  unfold spec_l1All.f
  exact l1All_loop l lo hi hl l.length 0 (by omega) (by omega)

def Asc (l : List Int) (j : Nat) : Prop := l.getD j 0 ≤ l.getD (j + 1) 0
instance (l : List Int) (j : Nat) : Decidable (Asc l j) := by unfold Asc; infer_instance
def sortB (l : List Int) : Bool := decide (∀ j, j < l.length - 1 → Asc l j)

theorem piGood_loop (l : List Int) (hl : l.length ≤ 35184372088832) (d : Nat) : ∀ i : Nat, l.length - i = d → 1 ≤ i → i ≤ 35184372088833 →
    Ev (fun k => spec_piGood.l0 k l (i : Int)) (decide (∀ j, j < l.length - 1 → i - 1 ≤ j → Asc l j)) := by
  induction d with
  | zero =>
    intro i hd h1 hi
    rw [decide_eq_true (fun j hj hj' => by omega)]
    exact Ev.one fun k => by rw [spec_piGood.l0, if_neg (by omega)]
  | succ d ih =>
    intro i hd h1 hi
    have hil : i < l.length := by omega
    have e1 : wrap64 ((i : Int) - 1) = ((i - 1 : Nat) : Int) := by rw [w64 (by omega) (by omega)]; omega
    by_cases hc : l.getD (i - 1) 0 ≤ l.getD i 0
    · have h := ih (i + 1) (by omega) (by omega) (by omega)
      have e : decide (∀ j, j < l.length - 1 → i + 1 - 1 ≤ j → Asc l j) = decide (∀ j, j < l.length - 1 → i - 1 ≤ j → Asc l j) := by
        refine decide_eq_decide.2 ⟨fun h j hj hj' => ?_, fun h j hj hj' => h j hj (by omega)⟩
        by_cases ej : j = i - 1
        · subst ej; unfold Asc; rw [show i - 1 + 1 = i by omega]; exact hc
        · exact h j hj (by omega)
      rw [e] at h
      refine Ev.step (fun k => ?_) h
      rw [spec_piGood.l0, if_pos (by omega), e1, if_pos (by omega), if_pos (by omega), if_pos (by omega), rd_nat, rd_nat, if_neg (by omega), w64 (by omega) (by omega)]
      rfl
    · rw [decide_eq_false (fun h => hc (by have := h (i - 1) (by omega) (by omega); unfold Asc at this; rwa [show i - 1 + 1 = i by omega] at this))]
      refine Ev.one fun k => ?_
      rw [spec_piGood.l0, if_pos (by omega), e1, if_pos (by omega), if_pos (by omega), if_pos (by omega), rd_nat, rd_nat, if_pos (by omega)]
def piecesB (l : List Int) : Bool := decide (l.length ≤ 20) && (inB 1 10000 l && sortB l)
theorem piGood_ev (l : List Int) (hl : l.length ≤ 35184372088832) : Ev (fun k => spec_piGood.f k l) (piecesB l) := by
  unfold spec_piGood.f piecesB
  by_cases h : l.length ≤ 20
  · rw [decide_eq_true h, Bool.true_and]
    refine Ev.if_neg' (by omega) (Ev.bind (l1All_ev l 1 10000 hl) ?_)
    cases inB 1 10000 l with
    | false => exact Ev.one fun k => by rw [spec_piGood.j0, if_pos (by simp)]; rfl
    | true =>
      refine Ev.step (fun k => by rw [spec_piGood.j0, if_neg (by simp)]) ?_
      have := piGood_loop l hl (l.length - 1) 1 rfl (by omega) (by omega)
      simpa [sortB] using this
  · rw [decide_eq_false h, Bool.false_and]
    refine Ev.if_pos' (by omega) ?_
    exact Ev.one fun k => by rw [spec_piGood.j0, if_pos (by simp)]
theorem less_eq (a b : Int) : cmp_Less_int.f a b = some (decide (a < b)) := by
  unfold cmp_Less_int.f cmp_isNaN_int.f
  simp
theorem sorted_loop (l : List Int) (hl : l.length ≤ 35184372088832) (i : Nat) : i ≤ l.length - 1 →
    Ev (fun k => slices_IsSorted_int_int.l0 k l (i : Int)) (decide (∀ j, j < i → Asc l j)) := by
  induction i with
  | zero =>
    intro _
    rw [decide_eq_true (fun j hj => by omega)]
    exact Ev.one fun k => by rw [slices_IsSorted_int_int.l0, if_neg (by omega)]
  | succ i ih =>
    intro hi
    have e1 : wrap64 (((i + 1 : Nat) : Int) - 1) = (i : Int) := by rw [w64 (by omega) (by omega)]; omega
    by_cases hc : Asc l i
    · have e : decide (∀ j, j < i → Asc l j) = decide (∀ j, j < i + 1 → Asc l j) := by
        refine decide_eq_decide.2 ⟨fun h j hj => ?_, fun h j hj => h j (by omega)⟩
        by_cases ej : j = i
        · rw [ej]; exact hc
        · exact h j (by omega)
      have h := ih (by omega)
      rw [e] at h
      refine Ev.step (fun k => ?_) h
      unfold Asc at hc
      rw [slices_IsSorted_int_int.l0, if_pos (by omega), if_pos (by omega), if_pos (by omega), e1, if_pos (by omega), if_pos (by omega), less_eq, rd_nat, rd_nat, decide_eq_false (by omega), Option.bind_some, if_neg (by simp)]
    · rw [decide_eq_false (fun h => hc (h i (by omega)))]
      refine Ev.one fun k => ?_
      unfold Asc at hc
      rw [slices_IsSorted_int_int.l0, if_pos (by omega), if_pos (by omega), if_pos (by omega), e1, if_pos (by omega), if_pos (by omega), less_eq, rd_nat, rd_nat, decide_eq_true (by omega), Option.bind_some, if_pos rfl]
theorem sorted_ev (l : List Int) (hl : l.length ≤ 35184372088832) : Ev (fun k => slices_IsSorted_int_int.f k l) (sortB l) := by
  unfold slices_IsSorted_int_int.f sortB
  cases l with
  | nil => exact Ev.one fun k => by rw [slices_IsSorted_int_int.l0, if_neg (by rw [w64 (by simp) (by simp)]; simp)]; rfl
  | cons a t =>
    have e : wrap64 (((a :: t).length : Int) - 1) = (((a :: t).length - 1 : Nat) : Int) := by rw [w64 (by omega) (by omega)]; simp
    rw [e]
    exact sorted_loop (a :: t) hl ((a :: t).length - 1) (by omega)
theorem ArePieces_ev (l : List Int) (hl : l.length ≤ 35184372088832) : Ev (fun k => impl_ArePieces.f k l) (piecesB l) := by
  unfold impl_ArePieces.f piecesB
  by_cases h : l.length ≤ 20
  · rw [decide_eq_true h, Bool.true_and]
    refine Ev.if_pos' (by omega) (Ev.const_bind (areWithin_eq l 1 10000 hl) ?_)
    cases inB 1 10000 l with
    | false => exact Ev.if_neg' (by simp) (Ev.now _)
    | true => exact Ev.if_pos' rfl (Ev.bind (sorted_ev l hl) (Ev.now _))
  · rw [decide_eq_false h, Bool.false_and]
    exact Ev.if_neg' (by omega) (Ev.now _)
theorem pieces_len {l : List Int} (h : piecesB l = true) : l.length ≤ 20 := by simp [piecesB] at h; exact h.1
theorem pieces_mem {l : List Int} (h : piecesB l = true) : ∀ x ∈ l, 1 ≤ x ∧ x ≤ 10000 := by
  simp [piecesB, inB] at h; exact h.2.1
theorem pieces_sum {l : List Int} (h : piecesB l = true) : 0 ≤ l.sum ∧ l.sum ≤ 200000 := by
  have h1 := pieces_mem h
  have h2 := pieces_len h
  have h3 := sum_nonneg l (fun x hx => by have := h1 x hx; omega)
  have h4 := sum_le 10000 l (fun x hx => (h1 x hx).2)
  omega

end Go.Proofs.YtgcpjjifiebijaaGreatDoor.Pure

/- Plain lemmas: few pieces. -/
namespace Go.Proofs.YtgcpjjifiebijaaGreatDoor.Pure
open Go.RowKit Go.Proofs.YtgcpjjifiebijaaGreatDoor.G Go.Proofs.YtgcpjjifiebijaaGreatDoorW.PrintWords Go.Proofs.YtgcpjjifiebijaaGreatDoorW.PrintLast

def fewB (l : List Int) : Bool := piecesB l && decide ((l.length : Int) ≤ 12)
theorem siFew_ev (l : List Int) (hl : l.length ≤ 35184372088832) : Ev (fun k => spec_siFew.f k l) (fewB l) := by
  unfold spec_siFew.f fewB
  refine Ev.bind (piGood_ev l hl) ?_
  cases h : piecesB l with
  | true => exact Ev.if_pos' rfl (Ev.now _)
  | false => exact Ev.if_neg' (by simp) (Ev.now _)
theorem isBoth_ev (l : List Int) (n : Int) (hl : l.length ≤ 35184372088832) : Ev (fun k => impl_isBoth.f k l n) (fewB l && decide (0 ≤ n ∧ n ≤ 1000000)) := by
  unfold impl_isBoth.f fewB
  refine Ev.bind (ArePieces_ev l hl) ?_
  cases h : piecesB l with
  | false => exact Ev.if_neg' (by simp) (Ev.now _)
  | true =>
    refine Ev.if_pos' rfl ?_
    by_cases h2 : (l.length : Int) ≤ 12
    · rw [decide_eq_true h2]; exact Ev.if_pos' h2 (Ev.const_bind (within_eq _ _ _) (Ev.now _))
    · rw [decide_eq_false h2]; exact Ev.if_neg' h2 (Ev.now _)
theorem few_pieces {l : List Int} (h : fewB l = true) : piecesB l = true ∧ l.length ≤ 12 := by
  unfold fewB at h
  rw [Bool.and_eq_true, decide_eq_true_eq] at h
  exact ⟨h.1, by omega⟩
/-- The rest of a law without a slice among its results: the argument is as it was. -/
theorem same_rest (l : List Int) (hl : l.length ≤ 35184372088832) : Ev (fun k => (laws_toIntS.f k l).bind fun t => (laws_eqIntS.f k l t).bind fun u => if u = true then some true else some false) true :=
  Ev.bind (toIntS_ev l hl) (Ev.bind (eqIntS_self l hl) (Ev.if_pos' rfl (Ev.now _)))

end Go.Proofs.YtgcpjjifiebijaaGreatDoor.Pure

/- Plain lemmas: texts of signs: how the reference and how the program tell them. -/
namespace Go.Proofs.YtgcpjjifiebijaaGreatDoor.Pure
open Go.RowKit Go.Proofs.YtgcpjjifiebijaaGreatDoor.G Go.Proofs.YtgcpjjifiebijaaGreatDoorW.PrintWords Go.Proofs.YtgcpjjifiebijaaGreatDoorW.PrintLast

def isSign (u : UInt8) : Bool := [43, 45, 48].contains u
def signsB (b : ByteArray) : Bool := b.data.toList.all isSign
theorem dropWhile_nil (p : UInt8 → Bool) (l : List UInt8) : l.dropWhile p = [] ↔ l.all p = true := by
  induction l with
  | nil => simp
  | cons a t ih =>
    rw [List.dropWhile_cons, List.all_cons]
    cases h : p a
    · simp
    · simp [ih]
theorem trim_nil (l cs : List UInt8) : Go.Lib.trimS l cs = [] ↔ l.all (cs.contains ·) = true := by
  unfold Go.Lib.trimS Go.Lib.trimLeftS Go.Lib.trimRightS
  rw [dropWhile_nil]
  have h1 : (l.reverse.takeWhile (cs.contains ·) ++ l.reverse.dropWhile (cs.contains ·)) = l.reverse := List.takeWhile_append_dropWhile
  have h2 : (l.reverse.takeWhile (cs.contains ·)).all (cs.contains ·) = true := List.all_takeWhile
  have h3 : l.reverse.all (cs.contains ·) = ((l.reverse.takeWhile (cs.contains ·)).all (cs.contains ·) && (l.reverse.dropWhile (cs.contains ·)).all (cs.contains ·)) := by
    conv => lhs; rw [← h1]
    rw [List.all_append]
  rw [h2, Bool.true_and, List.all_reverse] at h3
  rw [List.all_reverse, ← h3]
theorem Trim_eq (b : ByteArray) (h : b.size ≤ 1000000) : ∃ t, strings_Trim.f b (⟨#[43, 45, 48]⟩ : ByteArray) = some t ∧ (t.toList = ([] : List UInt8) ↔ signsB b = true) := by
  refine ⟨⟨(Go.Lib.trimS b.data.toList [43, 45, 48]).toArray⟩, ?_, ?_⟩
  · unfold strings_Trim.f
    rw [if_pos ⟨h, by decide, by decide⟩]
  · rw [Go.Lib.toList_data]
    show Go.Lib.trimS b.data.toList [43, 45, 48] = [] ↔ _
    rw [trim_nil]
    rfl
theorem size_list (b : ByteArray) : b.data.toList.length = b.size := by
  rw [Array.length_toList]; rfl
theorem bt_list (b : ByteArray) (i : Nat) (h : i < b.size) : bt b (i : Int) = ((b.data.toList[i]'(by rw [size_list]; exact h)).toNat : Int) := by
  unfold bt
  rw [dif_pos (by rw [Int.toNat_natCast]; exact h)]
  simp [ByteArray.getElem_eq_getElem_data]
theorem isSign_iff (u : UInt8) : isSign u = true ↔ ((u.toNat : Int) = 43 ∨ (u.toNat : Int) = 45 ∨ (u.toNat : Int) = 48) := by
  unfold isSign
  have h1 : u = 43 ↔ u.toNat = 43 := ⟨fun h => by rw [h]; rfl, fun h => UInt8.toNat_inj.1 (by rw [h]; rfl)⟩
  have h2 : u = 45 ↔ u.toNat = 45 := ⟨fun h => by rw [h]; rfl, fun h => UInt8.toNat_inj.1 (by rw [h]; rfl)⟩
  have h3 : u = 48 ↔ u.toNat = 48 := ⟨fun h => by rw [h]; rfl, fun h => UInt8.toNat_inj.1 (by rw [h]; rfl)⟩
  simp only [List.contains_cons, List.contains_nil, Bool.or_false, Bool.or_eq_true, beq_iff_eq, h1, h2, h3]
  omega
theorem siSigns_loop (b : ByteArray) (hb : b.size ≤ 2000000) (d : Nat) : ∀ i : Nat, b.size - i = d → i ≤ b.size →
    Ev (fun k => spec_siSigns.l0 k b (i : Int)) ((b.data.toList.drop i).all isSign) := by
  induction d with
  | zero =>
    intro i hd hi
    rw [List.drop_of_length_le (by rw [size_list]; omega)]
    exact Ev.one fun k => by rw [spec_siSigns.l0, if_neg (by omega)]; rfl
  | succ d ih =>
    intro i hd hi
    have hil : i < b.size := by omega
    have h := ih (i + 1) (by omega) (by omega)
    rw [List.drop_eq_getElem_cons (by rw [size_list]; exact hil), List.all_cons]
    have hbt := bt_list b i hil
    have hs := isSign_iff (b.data.toList[i]'(by rw [size_list]; exact hil))
    rw [← hbt] at hs
    have w1 : wrap64 ((i : Int) + 1) = ((i + 1 : Nat) : Int) := by rw [w64 (by omega) (by omega)]; rfl
    cases hsg : isSign (b.data.toList[i]'(by rw [size_list]; exact hil)) with
    | true =>
      rw [Bool.true_and]
      refine Ev.step (fun k => ?_) h
      rw [spec_siSigns.l0, if_pos (by omega), if_pos (by omega), w1]
      rcases hs.1 hsg with e | e | e
      · rw [if_pos e]
      · rw [if_neg (by omega), if_pos e]
      · rw [if_neg (by omega), if_neg (by omega), if_pos e]
    | false =>
      rw [Bool.false_and]
      refine Ev.one fun k => ?_
      have hn : ¬ (bt b (i : Int) = 43 ∨ bt b (i : Int) = 45 ∨ bt b (i : Int) = 48) := fun h => by rw [hs.2 h] at hsg; cases hsg
      rw [spec_siSigns.l0, if_pos (by omega), if_pos (by omega), if_neg (fun e => hn (.inl e)), if_neg (fun e => hn (.inr (.inl e))), if_neg (fun e => hn (.inr (.inr e)))]
theorem siSigns_ev (b : ByteArray) (n : Int) (hb : b.size ≤ 2000000) : Ev (fun k => spec_siSigns.f k b n) (decide ((b.size : Int) = n) && signsB b) := by
  unfold spec_siSigns.f
  by_cases h : (b.size : Int) = n
  · rw [decide_eq_true h, Bool.true_and]
    exact Ev.if_pos' h (siSigns_loop b hb b.size 0 (by omega) (by omega))
  · rw [decide_eq_false h, Bool.false_and]
    exact Ev.if_neg' h (Ev.now _)
theorem worth_one (u : Int) : impl_worth.f 1 u = spec_siOf.f u := by
  unfold impl_worth.f spec_siOf.f
  have : wrap64 (-1) = -1 := w64 (by omega) (by omega)
  rw [this]

end Go.Proofs.YtgcpjjifiebijaaGreatDoor.Pure

/- Plain lemma: the program's test of signs over pieces. -/
namespace Go.Proofs.YtgcpjjifiebijaaGreatDoor.Pure
open Go.RowKit Go.Proofs.YtgcpjjifiebijaaGreatDoor.G Go.Proofs.YtgcpjjifiebijaaGreatDoorW.PrintWords Go.Proofs.YtgcpjjifiebijaaGreatDoorW.PrintLast
theorem areSigns_ev (l : List Int) (b : ByteArray) (hl : l.length ≤ 35184372088832) : Ev (fun k => impl_areSigns.f k l b) (fewB l && (decide ((b.size : Int) = (l.length : Int)) && signsB b)) := by
  unfold impl_areSigns.f
  have hb2 := isBoth_ev l 0 hl
  cases hf : fewB l with
  | false =>
    rw [hf] at hb2
    exact Ev.bind hb2 (Ev.if_neg' (by simp) (Ev.now _))
  | true =>
    rw [hf] at hb2
    have h12 := (few_pieces hf).2
    refine Ev.bind hb2 (Ev.if_pos' (by simp) ?_)
    by_cases he : (b.size : Int) = (l.length : Int)
    · rw [decide_eq_true he]
      obtain ⟨t, ht, hti⟩ := Trim_eq b (by omega)
      refine Ev.if_pos' he (Ev.const_bind ht ?_)
      have e : (t.toList == ([] : List UInt8)) = signsB b := by
        cases hsg : signsB b with
        | true => rw [hti.2 hsg]; rfl
        | false =>
          apply Bool.eq_false_iff.2
          intro hh
          rw [hti.1 (beq_iff_eq.1 hh)] at hsg
          cases hsg
      rw [e]
      exact Ev.now _
    · rw [decide_eq_false he]
      exact Ev.if_neg' he (Ev.now _)

end Go.Proofs.YtgcpjjifiebijaaGreatDoor.Pure

/- Plain lemmas: the balanced text of a number: the reference's and the program's loops write the same digits, and the digits of -x are those of x with the signs changed. -/
namespace Go.Proofs.YtgcpjjifiebijaaGreatDoor.Pure
open Go.RowKit Go.Proofs.YtgcpjjifiebijaaGreatDoor.G Go.Proofs.YtgcpjjifiebijaaGreatDoorW.PrintWords Go.Proofs.YtgcpjjifiebijaaGreatDoorW.PrintLast

def dig (m : Int) : UInt8 := if m = 0 then 48 else if m = 1 then 43 else 45
def digs : Nat → Int → List UInt8
  | 0, _ => []
  | d + 1, x => if x = 0 then [] else digs d ((x + 1) / 3) ++ [dig (x % 3)]
theorem digs_len (d : Nat) : ∀ x, (digs d x).length ≤ d := by
  induction d with
  | zero => intro x; simp [digs]
  | succ d ih =>
    intro x
    rw [digs]
    split
    · simp
    · rw [List.length_append]; have := ih ((x + 1) / 3); simp; omega
theorem digs_neg (d : Nat) : ∀ x, digs d (-x) = (digs d x).map impl_negated.one := by
  induction d with
  | zero => intro x; simp [digs]
  | succ d ih =>
    intro x
    rw [digs, digs]
    by_cases h : x = 0
    · rw [if_pos (by omega), if_pos h]; rfl
    · rw [if_neg (by omega), if_neg h, List.map_append]
      have e : (-x + 1) / 3 = -((x + 1) / 3) := by omega
      rw [e, ih]
      congr 1
      rcases (show x % 3 = 0 ∨ x % 3 = 1 ∨ x % 3 = 2 by omega) with h3 | h3 | h3
      · rw [h3, show (-x) % 3 = 0 by omega]; rfl
      · rw [h3, show (-x) % 3 = 2 by omega]; rfl
      · rw [h3, show (-x) % 3 = 1 by omega]; rfl
theorem digs_ne (d : Nat) (x : Int) (h : x ≠ 0) (hd : x.natAbs ≤ d) : digs d x ≠ [] := by
  cases d with
  | zero => omega
  | succ d => rw [digs, if_neg h]; simp
theorem td3 (x : Int) : Int.tdiv x 3 = if 0 ≤ x then x / 3 else -((-x) / 3) := by
  split
  · rename_i h; exact Int.tdiv_eq_ediv_of_nonneg h
  · rename_i h
    have := Int.neg_tdiv (a := -x) (b := 3)
    rw [Int.neg_neg] at this
    rw [this, Int.tdiv_eq_ediv_of_nonneg (by omega)]
theorem tm3 (x : Int) : Int.tmod x 3 = if 0 ≤ x then x % 3 else -((-x) % 3) := by
  split
  · rename_i h; exact Int.tmod_eq_emod_of_nonneg h
  · rename_i h
    have := Int.neg_tmod (a := -x) (b := 3)
    rw [Int.neg_neg] at this
    rw [this, Int.tmod_eq_emod_of_nonneg (by omega)]
theorem l1Mod3 (x : Int) (_h0 : -9223372036854775000 ≤ x) (_h1 : x ≤ 9223372036854775000) : spec_l1Mod.f x 3 = some (x % 3) := by
  unfold spec_l1Mod.f
  have h3 := tm3 x
  rw [if_neg (by omega), w64 (by omega) (by omega)]
  congr 1
  have h4 := tm3 (Int.tmod x 3 + 3)
  omega
theorem app_one (u : UInt8) (l : List UInt8) : (⟨#[u]⟩ : ByteArray) ++ (⟨l.toArray⟩ : ByteArray) = ⟨(u :: l).toArray⟩ := by
  apply ByteArray.ext
  rw [ByteArray.data_append]
  simp
theorem tl_loop (b : ByteArray) (d : Nat) : ∀ (i : Nat) (r : List UInt8), b.size - i = d → ByteArray.toList.loop b i r = r.reverse ++ b.data.toList.drop i := by
  induction d with
  | zero =>
    intro i r h
    rw [ByteArray.toList.loop, if_neg (by omega), List.drop_of_length_le (by rw [Array.length_toList]; show b.size ≤ i; omega), List.append_nil]
  | succ d ih =>
    intro i r h
    have hi : i < b.data.size := by show i < b.size; omega
    rw [ByteArray.toList.loop, if_pos (by omega), ih (i + 1) _ (by omega), List.reverse_cons, List.append_assoc, List.singleton_append, List.drop_eq_getElem_cons (i := i) (by rw [Array.length_toList]; exact hi)]
    congr 2
    show b.data[i]! = _
    rw [getElem!_pos b.data i hi, Array.getElem_toList]
theorem tl_data (b : ByteArray) : b.toList = b.data.toList := by
  unfold ByteArray.toList
  rw [tl_loop b b.size 0 [] (by omega)]
  rfl
theorem size_arr (l : List UInt8) : (⟨l.toArray⟩ : ByteArray).size = l.length := by
  show l.toArray.size = _
  simp
theorem siBalanced_loop (d : Nat) : ∀ (x : Int) (acc : List UInt8), x.natAbs ≤ d → d + acc.length ≤ 9000000000000 →
    Ev (fun k => spec_siBalanced.l0 k x (⟨acc.toArray⟩ : ByteArray)) ⟨(digs d x ++ acc).toArray⟩ := by
  induction d with
  | zero =>
    intro x acc hx hl
    exact Ev.one fun k => by rw [spec_siBalanced.l0, if_pos (by omega)]; rfl
  | succ d ih =>
    intro x acc hx hl
    rw [digs]
    by_cases h : x = 0
    · rw [if_pos h]
      exact Ev.one fun k => by rw [spec_siBalanced.l0, if_pos h]; rfl
    · rw [if_neg h]
      have go := ih ((x + 1) / 3) (dig (x % 3) :: acc) (by omega) (by rw [List.length_cons]; omega)
      rw [List.append_assoc, List.singleton_append]
      refine Ev.step (fun k => ?_) go
      rw [spec_siBalanced.l0, if_neg h, l1Mod3 x (by omega) (by omega), Option.bind_some]
      have hs : 1 + (⟨acc.toArray⟩ : ByteArray).size ≤ 9223372036854775807 := by rw [size_arr]; omega
      have t0 := td3 x
      have t1 := td3 (x - 1)
      have t2 := td3 (x + 1)
      rcases (show x % 3 = 0 ∨ x % 3 = 1 ∨ x % 3 = 2 by omega) with h3 | h3 | h3
      · rw [if_pos h3, if_pos hs, app_one, h3, w64 (by omega) (by omega)]
        have e : Int.tdiv x 3 = (x + 1) / 3 := by omega
        rw [e]; rfl
      · rw [if_neg (by omega), if_pos h3, if_pos hs, app_one, h3, w64 (x := x - 1) (by omega) (by omega), w64 (by omega) (by omega)]
        have e : Int.tdiv (x - 1) 3 = (x + 1) / 3 := by omega
        rw [e]; rfl
      · rw [if_neg (by omega), if_neg (by omega), if_pos hs, app_one, h3, w64 (x := x + 1) (by omega) (by omega), w64 (by omega) (by omega)]
        have e : Int.tdiv (x + 1) 3 = (x + 1) / 3 := by omega
        rw [e]; rfl
/-- The balanced text of x. -/
def balT (x : Int) : List UInt8 := if x = 0 then [48] else digs x.natAbs x
theorem siBalanced_ev (x : Int) (h : x.natAbs ≤ 9000000000) : Ev (fun k => spec_siBalanced.f k x) ⟨(balT x).toArray⟩ := by
  unfold spec_siBalanced.f balT
  by_cases h0 : x = 0
  · rw [if_pos h0]
    exact Ev.if_pos' h0 (Ev.now _)
  · rw [if_neg h0]
    have := siBalanced_loop x.natAbs x [] (Nat.le_refl _) (by simp; omega)
    rw [List.append_nil] at this
    exact Ev.if_neg' h0 this
theorem cut3 (m : Nat) (h : m < 3) : (⟨#[48, 43, 45]⟩ : ByteArray).extract m (m + 1) = ⟨#[dig (m : Int)]⟩ := by
  rcases (show m = 0 ∨ m = 1 ∨ m = 2 by omega) with rfl | rfl | rfl <;> decide
theorem balanced_loop (d : Nat) : ∀ (x : Int) (acc : List UInt8), 0 ≤ x → x.natAbs ≤ d → d + acc.length ≤ 9000000000000 → (x = 0 → acc ≠ []) →
    Ev (fun k => impl_balanced.l0 k x (⟨acc.toArray⟩ : ByteArray)) ⟨(digs d x ++ acc).toArray⟩ := by
  have stop : ∀ (acc : List UInt8) k, acc ≠ [] → impl_balanced.l0 (k + 1) 0 (⟨acc.toArray⟩ : ByteArray) = some (⟨acc.toArray⟩ : ByteArray) := by
    intro acc k hn
    rw [impl_balanced.l0, if_neg (by omega), if_neg (by rw [tl_data]; simpa using hn)]
  induction d with
  | zero =>
    intro x acc h0 hx hl hn
    obtain rfl : x = 0 := by omega
    exact Ev.one fun k => stop acc k (hn rfl)
  | succ d ih =>
    intro x acc h0 hx hl hn
    rw [digs]
    by_cases h : x = 0
    · rw [if_pos h]
      subst h
      exact Ev.one fun k => stop acc k (hn rfl)
    · rw [if_neg h]
      have go := ih ((x + 1) / 3) (dig (x % 3) :: acc) (by omega) (by omega) (by rw [List.length_cons]; omega) (fun _ => by simp)
      rw [List.append_assoc, List.singleton_append]
      refine Ev.step (fun k => ?_) go
      have hm : Int.tmod x 3 = x % 3 := by have := tm3 x; omega
      have hq : (⟨#[48, 43, 45]⟩ : ByteArray).extract (x % 3).toNat (x % 3 + 1).toNat = ⟨#[dig (x % 3)]⟩ := by
        have := cut3 (x % 3).toNat (by omega)
        rw [Int.toNat_of_nonneg (by omega)] at this
        rw [show (x % 3 + 1).toNat = (x % 3).toNat + 1 by omega, this]
      have hs : (⟨#[dig (x % 3)]⟩ : ByteArray).size + (⟨acc.toArray⟩ : ByteArray).size ≤ 9223372036854775807 := by
        rw [size_arr]; show 1 + acc.length ≤ _; omega
      have e : Int.tdiv (x + 1) 3 = (x + 1) / 3 := by have := td3 (x + 1); omega
      rw [impl_balanced.l0, hm, w64 (x := x % 3 + 1) (by omega) (by omega), hq, w64 (x := x + 1) (by omega) (by omega), e, w64 (by omega) (by omega), app_one,
        if_pos (by omega), if_pos (by omega), if_pos (by omega), if_pos (by omega), if_pos hs]
theorem balanced_pos (x : Int) (h0 : 0 ≤ x) (h : x.natAbs ≤ 9000000000) : Ev (fun k => impl_balanced.l0 k x (⟨#[]⟩ : ByteArray)) ⟨(balT x).toArray⟩ := by
  unfold balT
  by_cases hz : x = 0
  · subst hz
    rw [if_pos rfl]
    exact Ev.one fun k => by rw [impl_balanced.l0, if_neg (by omega), if_pos (by rw [tl_data])]
  · rw [if_neg hz]
    have := balanced_loop x.natAbs x [] h0 (Nat.le_refl _) (by simp; omega) (fun e => absurd e hz)
    rw [List.append_nil] at this
    exact this
theorem negated_eq (l : List UInt8) (h : l.length ≤ 140737488351232) : impl_negated.f (⟨l.toArray⟩ : ByteArray) = some ⟨(l.map impl_negated.one).toArray⟩ := by
  unfold impl_negated.f impl_negated.all
  rw [if_pos (by rw [size_arr]; exact h)]
theorem balT_neg (x : Int) : balT (-x) = (balT x).map impl_negated.one := by
  unfold balT
  by_cases h : x = 0
  · subst h; rfl
  · rw [if_neg (by omega), if_neg h, Int.natAbs_neg, digs_neg]
theorem balT_len (x : Int) : (balT x).length ≤ x.natAbs + 1 := by
  unfold balT
  split
  · simp
  · have := digs_len x.natAbs x; omega
theorem balanced_ev (x : Int) (h : x.natAbs ≤ 9000000000) : Ev (fun k => impl_balanced.f k x) ⟨(balT x).toArray⟩ := by
  have pos : ∀ y : Int, 0 ≤ y → y.natAbs ≤ 9000000000 → Ev (fun k => impl_balanced.f k y) ⟨(balT y).toArray⟩ := fun y h0 hy =>
    Ev.step (fun k => by rw [impl_balanced.f, if_neg (by omega)]) (balanced_pos y h0 hy)
  by_cases h0 : 0 ≤ x
  · exact pos x h0 h
  · refine Ev.step (fun k => by rw [impl_balanced.f, if_pos (by omega), w64 (x := -x) (by omega) (by omega)]) (Ev.bind (pos (-x) (by omega) (by omega)) ?_)
    refine Ev.const_bind (negated_eq _ (by have := balT_len (-x); omega)) ?_
    rw [← balT_neg, Int.neg_neg]
    exact Ev.now _

end Go.Proofs.YtgcpjjifiebijaaGreatDoor.Pure

/- Plain lemmas: the number that a text of signs tells, and that the balanced text of that number is the text again. -/
namespace Go.Proofs.YtgcpjjifiebijaaGreatDoor.Pure
open Go.RowKit Go.Proofs.YtgcpjjifiebijaaGreatDoor.G Go.Proofs.YtgcpjjifiebijaaGreatDoorW.PrintWords Go.Proofs.YtgcpjjifiebijaaGreatDoorW.PrintLast

def wsg (u : UInt8) : Int := if u = 43 then 1 else if u = 45 then -1 else 0
def valF (x : Int) (l : List UInt8) : Int := l.foldl (fun x u => 3 * x + wsg u) x
theorem wsg_b (u : UInt8) : -1 ≤ wsg u ∧ wsg u ≤ 1 := by
  unfold wsg
  split
  · omega
  · split <;> omega
theorem siOf_eq (u : UInt8) : spec_siOf.f (u.toNat : Int) = some (wsg u) := by
  unfold spec_siOf.f wsg
  have h1 : u = 43 ↔ (u.toNat : Int) = 43 := ⟨fun h => by rw [h]; rfl, fun h => UInt8.toNat_inj.1 (by rw [show u.toNat = 43 by omega]; rfl)⟩
  have h2 : u = 45 ↔ (u.toNat : Int) = 45 := ⟨fun h => by rw [h]; rfl, fun h => UInt8.toNat_inj.1 (by rw [show u.toNat = 45 by omega]; rfl)⟩
  by_cases a : u = 43
  · rw [if_pos a, if_pos (h1.1 a)]
  · rw [if_neg a, if_neg (fun e => a (h1.2 e))]
    by_cases c : u = 45
    · rw [if_pos c, if_pos (h2.1 c)]
    · rw [if_neg c, if_neg (fun e => c (h2.2 e))]
theorem pow13 (i : Nat) (h : i ≤ 13) : 3 ^ i ≤ 1594323 := Nat.le_trans (Nat.pow_le_pow_right (by omega) h) (by decide)
theorem numv_loop (b : ByteArray) (hb : b.size ≤ 13) (d : Nat) : ∀ (i : Nat) (x : Int), b.size - i = d → i ≤ b.size → 2 * x.natAbs + 1 ≤ 3 ^ i →
    Ev (fun k => spec_siNumber.l0 k b x (i : Int)) (valF x (b.data.toList.drop i), true) ∧ Ev (fun k => impl_NumberOfSigns.l0 k b x (b.size : Int) (i : Int)) (valF x (b.data.toList.drop i), true) := by
  induction d with
  | zero =>
    intro i x hd hi _
    rw [List.drop_of_length_le (by rw [size_list]; omega)]
    exact ⟨Ev.one fun k => by rw [spec_siNumber.l0, if_neg (by omega)]; rfl, Ev.one fun k => by rw [impl_NumberOfSigns.l0, if_neg (by omega)]; rfl⟩
  | succ d ih =>
    intro i x hd hi hx
    have hil : i < b.size := by omega
    have hs := siOf_eq (b.data.toList[i]'(by rw [size_list]; exact hil))
    rw [← bt_list b i hil] at hs
    have hwb := wsg_b (b.data.toList[i]'(by rw [size_list]; exact hil))
    have hp := pow13 i (by omega)
    rw [List.drop_eq_getElem_cons (by rw [size_list]; exact hil)]
    have w2 : wrap64 (wrap64 (3 * x) + wsg (b.data.toList[i]'(by rw [size_list]; exact hil))) = 3 * x + wsg (b.data.toList[i]'(by rw [size_list]; exact hil)) := by
      rw [w64 (x := 3 * x) (by omega) (by omega), w64 (by omega) (by omega)]
    obtain ⟨h1, h2⟩ := ih (i + 1) (3 * x + wsg (b.data.toList[i]'(by rw [size_list]; exact hil))) (by omega) (by omega) (by rw [Nat.pow_succ]; omega)
    have w1 : wrap64 ((i : Int) + 1) = ((i + 1 : Nat) : Int) := by rw [w64 (by omega) (by omega)]; rfl
    refine ⟨Ev.step (fun k => ?_) h1, Ev.step (fun k => ?_) h2⟩
    · rw [spec_siNumber.l0, if_pos (by omega), if_pos (by omega), hs, Option.bind_some, w1, w2]
    · rw [impl_NumberOfSigns.l0, if_pos (by omega), if_pos (by omega), if_pos (by omega), worth_one, hs, Option.bind_some, w1, w2]
theorem number_ev (b : ByteArray) : ∃ r, Ev (fun k => spec_siNumber.f k b) r ∧ Ev (fun k => impl_NumberOfSigns.f k b) r ∧
    (r.2 = true → 1 ≤ b.size ∧ b.size ≤ 13 ∧ signsB b = true ∧ (1 < b.size → bt b 0 ≠ 48) ∧ r.1 = valF 0 b.data.toList) := by
  unfold spec_siNumber.f impl_NumberOfSigns.f
  have no1 : Ev (fun k => spec_siNumber.j0 k b true) (0, false) := Ev.one fun k => by rw [spec_siNumber.j0, if_pos rfl]
  have no2 : Ev (fun k => impl_NumberOfSigns.j0 k b true) (0, false) := Ev.one fun k => by rw [impl_NumberOfSigns.j0, if_pos rfl]
  have nf : ∀ p : Prop, ((0, false) : Int × Bool).2 = true → p := fun p h => by cases h
  by_cases hn : 1 ≤ (b.size : Int) ∧ (b.size : Int) ≤ 13
  · have hsz : b.size ≤ 13 := by omega
    obtain ⟨t, ht, hti⟩ := Trim_eq b (by omega)
    have hsi := siSigns_ev b (b.size : Int) (by omega)
    rw [decide_eq_true rfl, Bool.true_and] at hsi
    cases hsg : signsB b with
    | false =>
      rw [hsg] at hsi
      exact ⟨(0, false), Ev.const_bind (l1In_eq _ _ _) (Ev.if_pos' (decide_eq_true hn) (Ev.bind hsi (Ev.if_neg' (by simp) no1))),
        Ev.const_bind (within_eq _ _ _) (Ev.if_pos' (decide_eq_true hn) (Ev.const_bind ht (Ev.if_neg' (fun e => by rw [hti.1 e] at hsg; cases hsg) no2))), nf _⟩
    | true =>
      rw [hsg] at hsi
      obtain ⟨h1, h2⟩ := numv_loop b hsz b.size 0 0 (by omega) (by omega) (by decide)
      rw [List.drop_zero] at h1 h2
      have go1 : Ev (fun k => spec_siNumber.j0 k b false) (valF 0 b.data.toList, true) := Ev.step (fun k => by rw [spec_siNumber.j0, if_neg (by simp)]; rfl) h1
      have go2 : Ev (fun k => impl_NumberOfSigns.j0 k b false) (valF 0 b.data.toList, true) := Ev.step (fun k => by rw [impl_NumberOfSigns.j0, if_neg (by simp)]; rfl) h2
      have st1 : ∀ r', Ev (fun k => if (b.size : Int) > 1 then (if 0 < (b.size : Int) then (spec_siNumber.j0 k b ((bt b 0) == 48)) else (none)) else (spec_siNumber.j0 k b false)) r' → Ev (fun k => (spec_l1In.f (b.size : Int) 1 13).bind fun t101 => (if t101 = true then ((spec_siSigns.f k b (b.size : Int)).bind fun t102 => (if t102 = true then (if (b.size : Int) > 1 then (if 0 < (b.size : Int) then (spec_siNumber.j0 k b ((bt b 0) == 48)) else (none)) else (spec_siNumber.j0 k b false)) else (spec_siNumber.j0 k b true))) else (spec_siNumber.j0 k b true))) r' := fun r' h =>
        Ev.const_bind (l1In_eq _ _ _) (Ev.if_pos' (decide_eq_true hn) (Ev.bind hsi (Ev.if_pos' rfl h)))
      have st2 : ∀ r', Ev (fun k => if (bt b 0) = 48 then (impl_NumberOfSigns.j0 k b (decide ((b.size : Int) > 1))) else (impl_NumberOfSigns.j0 k b false)) r' → Ev (fun k => (impl_within.f (b.size : Int) 1 13).bind fun t106 => (if t106 = true then ((strings_Trim.f b (⟨#[43, 45, 48]⟩ : ByteArray)).bind fun t107 => (if t107.toList = ([] : List UInt8) then (if 0 < (b.size : Int) then (if (bt b 0) = 48 then (impl_NumberOfSigns.j0 k b (decide ((b.size : Int) > 1))) else (impl_NumberOfSigns.j0 k b false)) else (none)) else (impl_NumberOfSigns.j0 k b true))) else (impl_NumberOfSigns.j0 k b true))) r' := fun r' h =>
        Ev.const_bind (within_eq _ _ _) (Ev.if_pos' (decide_eq_true hn) (Ev.const_bind ht (Ev.if_pos' (hti.2 hsg) (Ev.if_pos' (by omega) h))))
      by_cases h48 : bt b 0 = 48
      · by_cases hone : (b.size : Int) > 1
        · refine ⟨(0, false), st1 _ (Ev.if_pos' hone (Ev.if_pos' (by omega) ?_)), st2 _ (Ev.if_pos' h48 ?_), nf _⟩
          · rw [show (bt b 0 == 48) = true by rw [h48]; rfl]; exact no1
          · rw [decide_eq_true hone]; exact no2
        · refine ⟨_, st1 _ (Ev.if_neg' hone go1), st2 _ (Ev.if_pos' h48 ?_), fun _ => ⟨by omega, hsz, rfl, fun h => absurd h (by omega), rfl⟩⟩
          rw [decide_eq_false hone]; exact go2
      · refine ⟨_, st1 _ ?_, st2 _ (Ev.if_neg' h48 go2), fun _ => ⟨by omega, hsz, rfl, fun _ => h48, rfl⟩⟩
        by_cases hone : (b.size : Int) > 1
        · refine Ev.if_pos' hone (Ev.if_pos' (by omega) ?_)
          rw [show (bt b 0 == 48) = false by simp [h48]]; exact go1
        · exact Ev.if_neg' hone go1
  · exact ⟨(0, false), Ev.const_bind (l1In_eq _ _ _) (Ev.if_neg' (by rw [decide_eq_false hn]; simp) no1), Ev.const_bind (within_eq _ _ _) (Ev.if_neg' (by rw [decide_eq_false hn]; simp) no2), nf _⟩
theorem digs_zero (d : Nat) : digs d 0 = [] := by cases d <;> rfl
theorem sign_cases {u : UInt8} (h : isSign u = true) : u = 43 ∨ u = 45 ∨ u = 48 := by
  unfold isSign at h
  simpa using h
theorem dig_of (u : UInt8) (h : isSign u = true) (v : Int) : dig ((3 * v + wsg u) % 3) = u ∧ (3 * v + wsg u + 1) / 3 = v := by
  rcases sign_cases h with rfl | rfl | rfl
  · refine ⟨?_, by show (3 * v + 1 + 1) / 3 = v; omega⟩
    rw [show (3 * v + wsg 43) % 3 = 1 by show (3 * v + 1) % 3 = 1; omega]; rfl
  · refine ⟨?_, by show (3 * v + -1 + 1) / 3 = v; omega⟩
    rw [show (3 * v + wsg 45) % 3 = 2 by show (3 * v + -1) % 3 = 2; omega]; rfl
  · refine ⟨?_, by show (3 * v + 0 + 1) / 3 = v; omega⟩
    rw [show (3 * v + wsg 48) % 3 = 0 by show (3 * v + 0) % 3 = 0; omega]; rfl
theorem valF_app (x : Int) (l : List UInt8) (u : UInt8) : valF x (l ++ [u]) = 3 * valF x l + wsg u := by
  unfold valF; rw [List.foldl_append]; rfl
theorem digs_val (n : Nat) : ∀ l : List UInt8, l.length = n → l.all isSign = true → l.head? ≠ some 48 →
    (l ≠ [] → valF 0 l ≠ 0) ∧ ∀ d, (valF 0 l).natAbs ≤ d → digs d (valF 0 l) = l := by
  induction n with
  | zero =>
    intro l hl _ _
    obtain rfl := List.length_eq_zero_iff.1 hl
    exact ⟨fun h => absurd rfl h, fun d _ => digs_zero d⟩
  | succ n ih =>
    intro l hl ha hh
    rcases List.eq_nil_or_concat l with rfl | ⟨l', u, rfl⟩
    · simp at hl
    rw [List.concat_eq_append] at *
    rw [List.length_append, List.length_singleton] at hl
    rw [List.all_append, Bool.and_eq_true] at ha
    have hu : isSign u = true := by simpa using ha.2
    obtain ⟨hd1, hd2⟩ := dig_of u hu (valF 0 l')
    have hw := wsg_b u
    have hne : valF 0 (l' ++ [u]) ≠ 0 := by
      rw [valF_app]
      by_cases hl0 : l' = []
      · subst hl0
        rcases sign_cases hu with rfl | rfl | rfl
        · decide
        · decide
        · exact absurd rfl hh
      · have := (ih l' (by omega) ha.1 (fun e => hh (by rw [List.head?_append, e]; rfl))).1 hl0
        omega
    refine ⟨fun _ => hne, fun d hd => ?_⟩
    have hr : digs (valF 0 l').natAbs (valF 0 l') = l' ∧ ∀ d, (valF 0 l').natAbs ≤ d → digs d (valF 0 l') = l' := by
      by_cases hl0 : l' = []
      · subst hl0; exact ⟨digs_zero _, fun d _ => digs_zero d⟩
      · have := (ih l' (by omega) ha.1 (fun e => hh (by rw [List.head?_append, e]; rfl))).2
        exact ⟨this _ (Nat.le_refl _), this⟩
    cases d with
    | zero => omega
    | succ d =>
      rw [digs, if_neg hne, valF_app, hd1, hd2, hr.2 d ?_]
      rw [valF_app] at hd hne
      omega
/-- The balanced text of the number that a canonical text tells is that text. -/
theorem balT_val (b : ByteArray) (h1 : 1 ≤ b.size) (hs : signsB b = true) (h0 : 1 < b.size → bt b 0 ≠ 48) : balT (valF 0 b.data.toList) = b.data.toList := by
  have hz : bt b 0 = ((b.data.toList.getD 0 0).toNat : Int) := by
    have h := bt_list b 0 (by omega)
    have hlt : 0 < b.data.toList.length := by rw [size_list]; omega
    rw [show b.data.toList.getD 0 0 = b.data.toList[0] by simp [List.getD, List.getElem?_eq_getElem hlt]]
    exact h
  have hl : b.data.toList.length = b.size := size_list b
  unfold signsB at hs
  generalize b.data.toList = l at hs hz hl ⊢
  cases l with
  | nil => simp at hl; omega
  | cons u t =>
    by_cases h48 : u = 48
    · have ht : t = [] := by
        apply Classical.byContradiction
        intro hn
        have : 0 < t.length := List.length_pos_iff.2 hn
        rw [List.length_cons] at hl
        apply h0 (by omega)
        rw [hz]
        show (u.toNat : Int) = 48
        rw [h48]; rfl
      subst ht h48
      rfl
    · obtain ⟨hn, hd⟩ := digs_val _ (u :: t) rfl hs (by simpa using h48)
      unfold balT
      rw [if_neg (hn (by simp))]
      exact hd _ (Nat.le_refl _)

end Go.Proofs.YtgcpjjifiebijaaGreatDoor.Pure
