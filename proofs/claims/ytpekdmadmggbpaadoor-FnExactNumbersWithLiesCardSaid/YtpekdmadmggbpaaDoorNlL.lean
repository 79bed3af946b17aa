/- Plain lemmas of several texts in one: Base, Within0, Rise0, BSearch, Card0, Answer0, AskA, Lies0, Mark, MarkSS. -/
import Derived.Test.YtpekdmadmggbpaaDoorWWords
import Derived.Test.YtpekdmadmggbpaaDoorWMore
import Derived.Test.YtpekdmadmggbpaaDoorNlx1
import Derived.Test.YtpekdmadmggbpaaDoorNlx2
import Derived.Test.YtpekdmadmggbpaaDoorNlx5
import Derived.Test.YtpekdmadmggbpaaDoorNlx3
import Derived.Test.YtpekdmadmggbpaaDoorNlx8
import Derived.Test.YtpekdmadmggbpaaDoorNlx7
import Derived.Test.YtpekdmadmggbpaaDoorNlx6
import Derived.Test.YtpekdmadmggbpaaDoorNlx4
import Derived.Test.YtpekdmadmggbpaaDoorNlx9
import Derived.Test.YtpekdmadmggbpaaDoorNlx10
/- Plain lemmas on the laws' own helpers: copying a list, comparing two lists. -/
namespace Go.Proofs.YtpekdmadmggbpaaDoor.Pure
open Go.RowKit Go.Proofs.YtpekdmadmggbpaaDoor.Nl Go.Proofs.YtpekdmadmggbpaaDoorW.PrintWords Go.Proofs.YtpekdmadmggbpaaDoorW.PrintLast

theorem Ev.eq {α : Type} {g f : Nat → Option α} {r : α} (h : ∀ k, g (k + 1) = f k) (k : Ev f r) : Ev g r := Ev.step h k
theorem Ev.pure' {α : Type} {g : Nat → Option α} {r : α} (h : ∀ k, g k = some r) : Ev g r := ⟨0, fun k _ => h k⟩
theorem Ev.one {α : Type} {g : Nat → Option α} {r : α} (h : ∀ k, g (k + 1) = some r) : Ev g r := Ev.step (f := fun _ => some r) h (Ev.now r)
theorem Ev.some_bind {α β : Type} {f : Nat → α → Option β} {a : α} {r : β} (h : Ev (fun n => f n a) r) : Ev (fun n => (some a).bind (f n)) r := h
theorem Ev.if_pos' {α : Type} {c : Prop} [Decidable c] {g f : Nat → Option α} {r : α} (hc : c) (h : Ev g r) : Ev (fun n => if c then g n else f n) r := by
  simpa only [if_pos hc] using h
theorem Ev.if_neg' {α : Type} {c : Prop} [Decidable c] {g f : Nat → Option α} {r : α} (hc : ¬ c) (h : Ev f r) : Ev (fun n => if c then g n else f n) r := by
  simpa only [if_neg hc] using h
theorem Ev.const_bind {α β : Type} {g : Option α} {f : Nat → α → Option β} {a : α} {r : β} (h : g = some a) (k : Ev (fun n => f n a) r) : Ev (fun n => g.bind (f n)) r := by
  simpa only [h, Option.bind_some] using k
/-- More rounds may be taken. -/
theorem Ev.le {α : Type} {g f : Nat → Option α} {r : α} (h : Ev g r) (hle : ∀ k, LeO (g k) (f k)) : Ev f r := by
  obtain ⟨K, hK⟩ := h
  exact ⟨K, fun k hk => hle k _ (hK k hk)⟩

theorem w64 {x : Int} (h0 : -9223372036854775808 ≤ x) (h1 : x ≤ 9223372036854775807) : wrap64 x = x := by unfold wrap64; omega
theorem rd_eq (l : List Int) (i : Nat) (h : i < l.length) : rd l (i : Int) = l[i] := by simp [rd, h]
theorem rd_nat (l : List Int) (i : Nat) : rd l (i : Int) = l.getD i 0 := rfl

theorem l1In_eq (a b c : Int) : spec_l1In.f a b c = some (decide (b ≤ a ∧ a ≤ c)) := by
  unfold spec_l1In.f
  by_cases h : a ≥ b <;> simp [h, ge_iff_le] <;> omega
theorem set_split (l : List Int) (i : Nat) (h : i < l.length) (v : Int) : l.set i v = l.take i ++ v :: l.drop (i + 1) := by
  rw [List.set_eq_take_append_cons_drop, if_pos h]

theorem toIntS_loop (l : List Int) (hl : l.length ≤ 35184372088832) (d : Nat) : ∀ (i : Nat) (acc : List Int), acc.length = l.length → l.length - i = d → i ≤ l.length → acc.take i = l.take i →
    Ev (fun k => laws_toIntS.l0 k l acc (i : Int)) l := by
  induction d with
  | zero =>
    intro i acc ha hd hi he
    have hil : i = l.length := by omega
    refine Ev.one fun k => ?_
    rw [laws_toIntS.l0, if_neg (by omega)]
    have := he; rw [hil] at this
    rw [List.take_length, ← ha, List.take_length] at this
    rw [this]
  | succ d ih =>
    intro i acc ha hd hi he
    refine Ev.step (f := fun k => laws_toIntS.l0 k l (acc.set i l[i]!) ((i + 1 : Nat) : Int)) (fun k => ?_) (ih (i + 1) _ (by simpa using ha) (by omega) (by omega) ?_)
    · rw [laws_toIntS.l0, if_pos (by omega), if_pos (by omega), if_pos (by omega), w64 (by omega) (by omega)]
      have : rd l (i : Int) = l[i]! := by rw [rd_eq l i (by omega), getElem!_pos l i (by omega)]
      rw [this]
      rfl
    · rw [getElem!_pos l i (by omega), List.take_succ_eq_append_getElem (by simp; omega), List.take_succ_eq_append_getElem (l := l) (by omega), List.take_set_of_le (by omega), he]
      simp
theorem toIntS_ev (l : List Int) (hl : l.length ≤ 35184372088832) : Ev (fun k => laws_toIntS.f k l) l := by
  unfold laws_toIntS.f
  refine Ev.if_pos' (by omega) (Ev.if_pos' (by omega) ?_)
  exact toIntS_loop l hl l.length 0 _ (by simp) (by omega) (by omega) (by simp)

theorem eqIntS_loop (a b : List Int) (hab : a.length = b.length) (hl : a.length ≤ 35184372088832) (d : Nat) : ∀ (i : Nat), a.length - i = d → i ≤ a.length →
    Ev (fun k => laws_eqIntS.l0 k a b (i : Int)) (decide (a.drop i = b.drop i)) := by
  induction d with
  | zero =>
    intro i hd hi
    refine Ev.one fun k => ?_
    rw [laws_eqIntS.l0, if_neg (by omega), List.drop_of_length_le (by omega), List.drop_of_length_le (by omega)]
    simp
  | succ d ih =>
    intro i hd hi
    have hi' : i < a.length := by omega
    have h := ih (i + 1) (by omega) (by omega)
    have hib : i < b.length := by omega
    rw [List.drop_eq_getElem_cons hi', List.drop_eq_getElem_cons hib]
    by_cases he : a[i] = b[i]
    · refine Ev.step (f := fun k => laws_eqIntS.l0 k a b ((i + 1 : Nat) : Int)) (fun k => ?_) (by simp only [he, List.cons.injEq, true_and]; exact h)
      rw [laws_eqIntS.l0, if_pos (by omega), if_pos (by omega), if_pos (by omega), if_pos (by rw [rd_eq a i hi', rd_eq b i hib, he]), w64 (by omega) (by omega)]
      rfl
    · refine Ev.one fun k => ?_
      rw [laws_eqIntS.l0, if_pos (by omega), if_pos (by omega), if_pos (by omega), if_neg (by rw [rd_eq a i hi', rd_eq b i hib]; exact he)]
      rw [decide_eq_false (fun e => he (List.cons.inj e).1)]
theorem eqIntS_ev (a b : List Int) (hl : a.length ≤ 35184372088832) : Ev (fun k => laws_eqIntS.f k a b) (decide (a = b)) := by
  unfold laws_eqIntS.f
  by_cases h : a.length = b.length
  · refine Ev.if_pos' (by omega) ?_
    simpa using eqIntS_loop a b h hl a.length 0 (by omega) (by omega)
  · refine Ev.if_neg' (by omega) ?_
    rw [decide_eq_false (fun e => h (by rw [e]))]
    exact Ev.now _
theorem eqIntS_self (a : List Int) (hl : a.length ≤ 35184372088832) : Ev (fun k => laws_eqIntS.f k a a) true := by
  simpa using eqIntS_ev a a hl

end Go.Proofs.YtpekdmadmggbpaaDoor.Pure

/- Plain lemma: the program's test of a number between bounds. -/
namespace Go.Proofs.YtpekdmadmggbpaaDoor.Pure
open Go.RowKit Go.Proofs.YtpekdmadmggbpaaDoor.Nl Go.Proofs.YtpekdmadmggbpaaDoorW.PrintWords Go.Proofs.YtpekdmadmggbpaaDoorW.PrintLast

theorem within_eq (a b c : Int) : impl_within.f a b c = some (decide (b ≤ a ∧ a ≤ c)) := by
  unfold impl_within.f
  by_cases h : b ≤ a <;> simp [h]


end Go.Proofs.YtpekdmadmggbpaaDoor.Pure

/- Plain lemmas: lists that rise, and lie between bounds, by the program and by the reference. -/
namespace Go.Proofs.YtpekdmadmggbpaaDoor.Pure
open Go.RowKit Go.Proofs.YtpekdmadmggbpaaDoor.Nl Go.Proofs.YtpekdmadmggbpaaDoorW.PrintWords Go.Proofs.YtpekdmadmggbpaaDoorW.PrintLast

def risesB : List Int → Bool
  | a :: b :: t => decide (a < b) && risesB (b :: t)
  | _ => true
def inB (lo hi : Int) (l : List Int) : Bool := l.all fun x => decide (lo ≤ x) && decide (x ≤ hi)

theorem drop_two (l : List Int) (i : Nat) (h1 : 1 ≤ i) (h : i < l.length) : l.drop (i - 1) = l[i - 1] :: l[i] :: l.drop (i + 1) := by
  rw [List.drop_eq_getElem_cons (by omega : i - 1 < l.length), show i - 1 + 1 = i by omega, List.drop_eq_getElem_cons h]
theorem rises_short (l : List Int) (i : Nat) (h : l.length ≤ i) : risesB (l.drop (i - 1)) = true := by
  have hs : (l.drop (i - 1)).length ≤ 1 := by rw [List.length_drop]; omega
  match l.drop (i - 1), hs with
  | [], _ => rfl
  | [a], _ => rfl

theorem inB_cons (lo hi a : Int) (t : List Int) : inB lo hi (a :: t) = (decide (lo ≤ a ∧ a ≤ hi) && inB lo hi t) := by simp [inB]
theorem rises_loop (l : List Int) (hl : l.length ≤ 35184372088832) (d : Nat) : ∀ (i : Nat), 1 ≤ i → l.length - i = d → i ≤ 35184372088833 →
    Ev (fun k => impl_rises.l0 k l (i : Int)) (risesB (l.drop (i - 1))) := by
  induction d with
  | zero =>
    intro i h1 hd hi
    rw [rises_short l i (by omega)]
    exact Ev.one fun k => by rw [impl_rises.l0, if_neg (by omega)]
  | succ d ih =>
    intro i h1 hd hi
    have hil : i < l.length := by omega
    have e1 : wrap64 ((i : Int) - 1) = ((i - 1 : Nat) : Int) := by rw [w64 (by omega) (by omega)]; omega
    rw [drop_two l i h1 hil, risesB]
    by_cases hc : l[i - 1] < l[i]
    · have h := ih (i + 1) (by omega) (by omega) (by omega)
      rw [show i + 1 - 1 = i by omega, List.drop_eq_getElem_cons hil] at h
      rw [decide_eq_true hc, Bool.true_and]
      refine Ev.step (f := fun k => impl_rises.l0 k l ((i + 1 : Nat) : Int)) (fun k => ?_) h
      rw [impl_rises.l0, if_pos (by omega), e1, if_pos (by omega), if_pos (by omega), if_pos (by omega), rd_eq l i hil, rd_eq l (i - 1) (by omega), if_neg (by omega), w64 (by omega) (by omega)]
      rfl
    · rw [decide_eq_false hc, Bool.false_and]
      refine Ev.one fun k => ?_
      rw [impl_rises.l0, if_pos (by omega), e1, if_pos (by omega), if_pos (by omega), if_pos (by omega), rd_eq l i hil, rd_eq l (i - 1) (by omega), if_pos (by omega)]
theorem rises_ev (l : List Int) (hl : l.length ≤ 35184372088832) : Ev (fun k => impl_rises.f k l) (risesB l) := by
  unfold impl_rises.f
  exact rises_loop l hl (l.length - 1) 1 (by omega) rfl (by omega)

theorem l1Rising_loop (l : List Int) (lo hi : Int) (hl : l.length ≤ 35184372088832) (d : Nat) : ∀ (i : Nat), 1 ≤ i → l.length - i = d → i ≤ 35184372088833 →
    Ev (fun k => spec_l1Rising.l0 k l lo hi l (l.length : Int) (i : Int)) (inB lo hi (l.drop i) && risesB (l.drop (i - 1))) := by
  induction d with
  | zero =>
    intro i h1 hd hi
    rw [rises_short l i (by omega), List.drop_of_length_le (by omega)]
    exact Ev.one fun k => by rw [spec_l1Rising.l0, if_neg (by omega)]; rfl
  | succ d ih =>
    intro i h1 hd hi'
    have hil : i < l.length := by omega
    have e1 : wrap64 ((i : Int) - 1) = ((i - 1 : Nat) : Int) := by rw [w64 (by omega) (by omega)]; omega
    rw [drop_two l i h1 hil, risesB, List.drop_eq_getElem_cons hil]
    rw [inB_cons]
    by_cases hb : lo ≤ l[i] ∧ l[i] ≤ hi
    · rw [decide_eq_true hb, Bool.true_and]
      by_cases hc : l[i - 1] < l[i]
      · have h := ih (i + 1) (by omega) (by omega) (by omega)
        rw [show i + 1 - 1 = i by omega, List.drop_eq_getElem_cons hil] at h
        rw [decide_eq_true hc, Bool.true_and]
        refine Ev.step (f := fun k => spec_l1Rising.l0 k l lo hi l (l.length : Int) ((i + 1 : Nat) : Int)) (fun k => ?_) h
        rw [spec_l1Rising.l0, if_pos (by omega), if_pos (by omega), if_pos (by omega), rd_eq l i hil, l1In_eq, decide_eq_true hb, Option.bind_some, if_pos rfl, if_pos (by omega), e1, if_pos (by omega), if_pos (by omega), rd_eq l (i - 1) (by omega), if_neg (by omega), w64 (by omega) (by omega)]
        rfl
      · rw [decide_eq_false hc, Bool.false_and, Bool.and_false]
        refine Ev.one fun k => ?_
        rw [spec_l1Rising.l0, if_pos (by omega), if_pos (by omega), if_pos (by omega), rd_eq l i hil, l1In_eq, decide_eq_true hb, Option.bind_some, if_pos rfl, if_pos (by omega), e1, if_pos (by omega), if_pos (by omega), rd_eq l (i - 1) (by omega), if_pos (by omega)]
    · rw [decide_eq_false hb, Bool.false_and, Bool.false_and]
      refine Ev.one fun k => ?_
      rw [spec_l1Rising.l0, if_pos (by omega), if_pos (by omega), if_pos (by omega), rd_eq l i hil, l1In_eq, decide_eq_false hb, Option.bind_some, if_neg (by simp)]
theorem l1Rising_ev (l : List Int) (lo hi : Int) (hl : l.length ≤ 35184372088832) : Ev (fun k => spec_l1Rising.f k l lo hi) (inB lo hi l && risesB l) := by
  unfold spec_l1Rising.f
  cases l with
  | nil => exact Ev.one fun k => by rw [spec_l1Rising.l0, if_neg (by simp)]; rfl
  | cons a t =>
    have hil : 0 < (a :: t).length := by simp
    have h := l1Rising_loop (a :: t) lo hi hl ((a :: t).length - 1) 1 (by omega) rfl (by omega)
    rw [inB_cons]
    by_cases hb : lo ≤ a ∧ a ≤ hi
    · rw [decide_eq_true hb, Bool.true_and]
      refine Ev.step (f := fun k => spec_l1Rising.l0 k (a :: t) lo hi (a :: t) ((a :: t).length : Int) ((1 : Nat) : Int)) (fun k => ?_) h
      rw [spec_l1Rising.l0, if_pos (by omega), if_pos (by omega), if_pos (by omega), show rd (a :: t) 0 = a from rfl, l1In_eq, decide_eq_true hb, Option.bind_some, if_pos rfl, if_neg (by omega), w64 (by omega) (by omega)]
      rfl
    · rw [decide_eq_false hb, Bool.false_and, Bool.false_and]
      refine Ev.one fun k => ?_
      rw [spec_l1Rising.l0, if_pos (by omega), if_pos (by omega), if_pos (by omega), show rd (a :: t) 0 = a from rfl, l1In_eq, decide_eq_false hb, Option.bind_some, if_neg (by simp)]
theorem areWithin_eq (l : List Int) (lo hi : Int) (hl : l.length ≤ 35184372088832) : impl_areWithin.f l lo hi = some (inB lo hi l) := by
  unfold impl_areWithin.f
  rw [if_pos (by omega)]
  rfl
theorem rises_pairwise : ∀ (l : List Int), risesB l = true → l.Pairwise (· < ·)
  | [], _ => .nil
  | [_], _ => List.pairwise_singleton _ _
  | a :: b :: t, h => by
    rw [risesB, Bool.and_eq_true] at h
    have hab := of_decide_eq_true h.1
    have ih := rises_pairwise (b :: t) h.2
    refine List.pairwise_cons.2 ⟨fun x hx => ?_, ih⟩
    rcases List.mem_cons.1 hx with rfl | hx
    · exact hab
    · exact Int.lt_trans hab ((List.pairwise_cons.1 ih).1 x hx)

end Go.Proofs.YtpekdmadmggbpaaDoor.Pure

/- Plain lemmas: the library's search in an increasing list finds just the list's elements. -/
namespace Go.Proofs.YtpekdmadmggbpaaDoor.Pure
open Go.RowKit Go.Proofs.YtpekdmadmggbpaaDoor.Nl Go.Proofs.YtpekdmadmggbpaaDoorW.PrintWords Go.Proofs.YtpekdmadmggbpaaDoorW.PrintLast

theorem cmpLess_eq (a b : Int) : cmp_Less_int.f a b = some (decide (a < b)) := by
  unfold cmp_Less_int.f cmp_isNaN_int.f
  simp
theorem u64w {x : Int} (h0 : 0 ≤ x) (h1 : x < 18446744073709551616) : IntKind.u64.wrap x = x := by
  unfold IntKind.wrap
  simp [IntKind.signed, IntKind.bits]
  omega
def Incr (L : List Int) : Prop := ∀ i j, i < j → j < L.length → L.getD i 0 < L.getD j 0
theorem search_loop (L : List Int) (hL : Incr L) (hl : L.length ≤ 35184372088832) (x : Int) (d : Nat) : ∀ i j : Nat, j - i ≤ d → i ≤ j → j ≤ L.length →
    (∀ t, t < i → L.getD t 0 < x) → (∀ t, j ≤ t → t < L.length → x ≤ L.getD t 0) →
    ∃ p, Ev (fun k => slices_BinarySearch_int_int.l0 k L x (L.length : Int) (i : Int) (j : Int)) (p, decide (x ∈ L)) := by
  have fin : ∀ i : Nat, i ≤ L.length → (∀ t, t < i → L.getD t 0 < x) → (∀ t, i ≤ t → t < L.length → x ≤ L.getD t 0) →
      ∃ p, Ev (fun k => slices_BinarySearch_int_int.l0 k L x (L.length : Int) (i : Int) (i : Int)) (p, decide (x ∈ L)) := by
    intro i hi hlo hhi
    refine ⟨(i : Int), Ev.one fun k => ?_⟩
    rw [slices_BinarySearch_int_int.l0, if_neg (by omega)]
    by_cases hil : i < L.length
    · rw [if_pos (by omega), if_pos (by omega), if_pos (by omega), rd_nat]
      by_cases he : L.getD i 0 = x
      · have hm : x ∈ L := by rw [← he]; simp [List.getD, hil]
        rw [if_pos he, decide_eq_true hm]
      · have hm : ¬ x ∈ L := by
          intro hm
          obtain ⟨t, ht, hx⟩ := List.getElem_of_mem hm
          have e : L.getD t 0 = x := by simp [List.getD, ht, hx]
          by_cases h1 : t < i
          · have := hlo t h1; omega
          · by_cases h2 : t = i
            · subst h2; exact he e
            · have := hL i t (by omega) ht
              have := hhi i (by omega) hil
              omega
        rw [if_neg he, decide_eq_false hm]
        simp [slices_isNaN_int.f]
    · have hm : ¬ x ∈ L := by
        intro hm
        obtain ⟨t, ht, hx⟩ := List.getElem_of_mem hm
        have e : L.getD t 0 = x := by simp [List.getD, ht, hx]
        have := hlo t (by omega)
        omega
      rw [if_neg (by omega), decide_eq_false hm]
  induction d with
  | zero =>
    intro i j hd hij hj hlo hhi
    obtain rfl : i = j := by omega
    exact fin i hj hlo hhi
  | succ d ih =>
    intro i j hd hij hj hlo hhi
    by_cases hlt : i < j
    · have e0 : IntKind.u64.wrap (wrap64 ((i : Int) + (j : Int))) = (i : Int) + j := by rw [w64 (by omega) (by omega), u64w (by omega) (by omega)]
      have e1 : wrap64 (((i : Int) + j) / 2) = (((i + j) / 2 : Nat) : Int) := by rw [w64 (by omega) (by omega)]; omega
      by_cases hc : L.getD ((i + j) / 2) 0 < x
      · obtain ⟨p, hp⟩ := ih ((i + j) / 2 + 1) j (by omega) (by omega) hj (fun t ht => by
          by_cases h1 : t = (i + j) / 2
          · rw [h1]; exact hc
          · have := hL t ((i + j) / 2) (by omega) (by omega); omega) hhi
        refine ⟨p, Ev.step (fun k => ?_) hp⟩
        rw [slices_BinarySearch_int_int.l0, if_pos (by omega), e0, e1, if_pos (by omega), if_pos (by omega), rd_nat, cmpLess_eq, decide_eq_true hc, Option.bind_some, if_pos rfl, w64 (by omega) (by omega)]
        rfl
      · obtain ⟨p, hp⟩ := ih i ((i + j) / 2) (by omega) (by omega) (by omega) hlo (fun t ht ht' => by
          by_cases h1 : t = (i + j) / 2
          · rw [h1]; omega
          · have := hL ((i + j) / 2) t (by omega) ht'; omega)
        refine ⟨p, Ev.step (fun k => ?_) hp⟩
        rw [slices_BinarySearch_int_int.l0, if_pos (by omega), e0, e1, if_pos (by omega), if_pos (by omega), rd_nat, cmpLess_eq, decide_eq_false hc, Option.bind_some, if_neg (by simp)]
    · obtain rfl : i = j := by omega
      exact fin i hj hlo hhi
theorem search_ev (L : List Int) (hL : Incr L) (hl : L.length ≤ 35184372088832) (x : Int) : ∃ p, Ev (fun k => slices_BinarySearch_int_int.f k L x) (p, decide (x ∈ L)) := by
  unfold slices_BinarySearch_int_int.f
  exact search_loop L hL hl x L.length 0 L.length (by omega) (by omega) (by omega) (fun t ht => by omega) (fun t ht ht' => by omega)

end Go.Proofs.YtpekdmadmggbpaaDoor.Pure

/- Plain lemmas: cards: copies of them, their size, which are right, by the program and by the reference. -/
namespace Go.Proofs.YtpekdmadmggbpaaDoor.Pure
open Go.RowKit Go.Proofs.YtpekdmadmggbpaaDoor.Nl Go.Proofs.YtpekdmadmggbpaaDoorW.PrintWords Go.Proofs.YtpekdmadmggbpaaDoorW.PrintLast

theorem rd_L2_at (l : List (List Int)) (i : Nat) (h : i < l.length) : rd_L1 l (i : Int) = l[i] := by simp [rd_L1, List.getD, h]
section
variable (l : List (List Int)) (hl : l.length ≤ 1048576) (hr : ∀ x ∈ l, x.length ≤ 1048576)
include hl hr
theorem toSS_loop (d : Nat) : ∀ i : Nat, l.length - i = d → i ≤ l.length →
    Ev (fun k => laws_toIntSS.l0 k l (l.take i ++ List.replicate (l.length - i) []) (i : Int)) l := by
  induction d with
  | zero =>
    intro i hd hi
    refine Ev.one fun k => ?_
    rw [laws_toIntSS.l0, if_neg (by omega), show l.length - i = 0 by omega, List.take_of_length_le (by omega)]
    simp
  | succ d ih =>
    intro i hd hi
    have hil : i < l.length := by omega
    have h := ih (i + 1) (by omega) (by omega)
    have hx := hr l[i] (List.getElem_mem hil)
    have e : (l.take i ++ List.replicate (l.length - i) []).set i l[i] = l.take (i + 1) ++ List.replicate (l.length - (i + 1)) [] := by
      rw [show l.length - i = (l.length - (i + 1)) + 1 by omega, List.replicate_succ, List.take_succ_eq_append_getElem hil, List.append_assoc]
      have ht : (l.take i).length = i := by rw [List.length_take]; omega
      have : ∀ (A : List (List Int)) (y z : List Int) (B : List (List Int)), A.length = i → (A ++ y :: B).set i z = A ++ z :: B := fun A y z B hA => by subst hA; simp
      rw [this _ _ _ _ ht]
      rfl
    rw [← e] at h
    refine Ev.step (f := fun k => (laws_toIntS.f k l[i]).bind fun t => laws_toIntSS.l0 k l ((l.take i ++ List.replicate (l.length - i) []).set i t) ((i + 1 : Nat) : Int)) (fun k => ?_) (Ev.bind (toIntS_ev l[i] (by omega)) h)
    rw [laws_toIntSS.l0, if_pos (by omega), if_pos (by omega), rd_L2_at l i hil, w64 (x := (i : Int) + 1) (by omega) (by omega)]
    congr 1
    funext t
    rw [if_pos (by rw [List.length_append, List.length_take, List.length_replicate]; omega), Int.toNat_natCast]
    rfl
theorem toCards_ev (n : Int) : Ev (fun k => laws_toCards.f k n l) (n, l) := by
  unfold laws_toCards.f laws_toIntSS.f
  refine Ev.bind (Ev.if_pos' (by omega) (Ev.if_pos' (by omega) ?_)) (Ev.now _)
  rw [Int.toNat_natCast]
  exact toSS_loop l hl hr l.length 0 (by omega) (by omega)
theorem eqSS_loop (d : Nat) : ∀ i : Nat, l.length - i = d → i ≤ l.length → Ev (fun k => laws_eqIntSS.l0 k l l (i : Int)) true := by
  induction d with
  | zero => intro i hd hi; exact Ev.one fun k => by rw [laws_eqIntSS.l0, if_neg (by omega)]
  | succ d ih =>
    intro i hd hi
    have hil : i < l.length := by omega
    have h := ih (i + 1) (by omega) (by omega)
    have hx := hr l[i] (List.getElem_mem hil)
    refine Ev.step (f := fun k => (laws_eqIntS.f k l[i] l[i]).bind fun t => if t = true then laws_eqIntSS.l0 k l l ((i + 1 : Nat) : Int) else some false) (fun k => ?_) (Ev.bind (eqIntS_self l[i] (by omega)) (Ev.if_pos' rfl h))
    rw [laws_eqIntSS.l0, if_pos (by omega), if_pos (by omega), if_pos (by omega), rd_L2_at l i hil, w64 (x := (i : Int) + 1) (by omega) (by omega)]
    rfl
theorem eqCards_ev (n : Int) : Ev (fun k => laws_eqCards.f k n l n l) true := by
  unfold laws_eqCards.f laws_eqIntSS.f
  exact Ev.if_pos' rfl (Ev.bind (a := true) (Ev.if_pos' rfl (eqSS_loop l hl hr l.length 0 (by omega) (by omega))) (Ev.if_pos' rfl (Ev.now _)))
end
theorem szS_eq (x : List Int) (b : Int) (hb : 0 ≤ b ∧ b ≤ 1048576) (hx : x.length ≤ 9223372036854775807) : laws_szIntS.f x b = if b < (x.length : Int) then some (-1) else some (b - (x.length : Int)) := by
  unfold laws_szIntS.f
  rw [w64 (by omega) (by omega)]
  by_cases h : b < (x.length : Int)
  · rw [if_pos (by omega), if_pos h]
  · rw [if_neg (by omega), if_neg h]
theorem szSS_loop (l : List (List Int)) (hl : l.length ≤ 1048576) (hr : ∀ x ∈ l, x.length ≤ 9223372036854775807) (d : Nat) : ∀ (i : Nat) (b : Int), l.length - i = d → i ≤ l.length → 0 ≤ b ∧ b ≤ 1048576 →
    ∃ r : Int, Ev (fun k => laws_szIntSS.l0 k l b (i : Int)) r ∧ (r < 0 ∨ (0 ≤ r ∧ ∀ j, i ≤ j → (h : j < l.length) → l[j].length ≤ 1048576)) := by
  induction d with
  | zero =>
    intro i b hd hi hb
    exact ⟨b, Ev.one fun k => by rw [laws_szIntSS.l0, if_neg (by omega)], .inr ⟨hb.1, fun j h1 h2 => by omega⟩⟩
  | succ d ih =>
    intro i b hd hi hb
    have hil : i < l.length := by omega
    have hx := hr l[i] (List.getElem_mem hil)
    have hs := szS_eq l[i] b hb hx
    by_cases hc : b < (l[i].length : Int)
    · rw [if_pos hc] at hs
      refine ⟨-1, Ev.one fun k => ?_, .inl (by omega)⟩
      rw [laws_szIntSS.l0, if_pos (by omega), if_pos (by omega), rd_L2_at l i hil, hs, Option.bind_some, if_pos (by omega)]
    · rw [if_neg hc] at hs
      obtain ⟨r, h1, h2⟩ := ih (i + 1) (b - (l[i].length : Int)) (by omega) (by omega) (by omega)
      refine ⟨r, Ev.step (fun k => ?_) h1, ?_⟩
      · rw [laws_szIntSS.l0, if_pos (by omega), if_pos (by omega), rd_L2_at l i hil, hs, Option.bind_some, if_neg (by omega), w64 (x := (i : Int) + 1) (by omega) (by omega)]
        rfl
      · rcases h2 with h | ⟨h3, h4⟩
        · exact .inl h
        · refine .inr ⟨h3, fun j hj hjl => ?_⟩
          by_cases e : j = i
          · subst e; omega
          · exact h4 j (by omega) hjl
/-- Cards that are too large are passed over. -/
theorem szCards_ev (n : Int) (l : List (List Int)) (hl : l.length ≤ 9223372036854775807) (hr : ∀ x ∈ l, x.length ≤ 9223372036854775807) :
    ∃ r : Int, Ev (fun k => laws_szCards.f k n l 1048576) r ∧ (r < 0 ∨ (¬ r < 0 ∧ l.length ≤ 1048576 ∧ ∀ x ∈ l, x.length ≤ 1048576)) := by
  unfold laws_szCards.f laws_szIntSS.f
  have w1 : wrap64 (1048576 - (l.length : Int)) = 1048576 - (l.length : Int) := w64 (by omega) (by omega)
  rw [w1]
  clear w1
  by_cases h : (1048576 : Int) - (l.length : Int) < 0
  · exact ⟨-1, Ev.bind (a := -1) (Ev.if_pos' h (Ev.now _)) (Ev.if_pos' (by omega) (Ev.now _)), .inl (by omega)⟩
  · obtain ⟨r, h1, h2⟩ := szSS_loop l (by omega) hr l.length 0 (1048576 - (l.length : Int)) (by omega) (by omega) (by omega)
    by_cases hr0 : r < 0
    · exact ⟨-1, Ev.bind (a := r) (Ev.if_neg' h h1) (Ev.if_pos' hr0 (Ev.now _)), .inl (by omega)⟩
    · refine ⟨r, Ev.bind (a := r) (Ev.if_neg' h h1) (Ev.if_neg' hr0 (Ev.now _)), .inr ⟨hr0, by omega, fun x hx => ?_⟩⟩
      rcases h2 with h3 | ⟨_, h4⟩
      · exact absurd h3 hr0
      · obtain ⟨j, hj, rfl⟩ := List.getElem_of_mem hx
        exact h4 j (by omega) hj

/-- What a card for n numbers is; what cards are. -/
def cardB (n : Int) (x : List Int) : Bool := inB 0 (n - 1) x && risesB x
def cardsB (n : Int) (l : List (List Int)) : Bool := decide (1 ≤ n ∧ n ≤ 128) && (decide ((l.length : Int) ≤ 12) && l.all (cardB n))
theorem isCard_ev (n : Int) (hn : 1 ≤ n ∧ n ≤ 128) (x : List Int) (hx : x.length ≤ 35184372088832) : Ev (fun k => impl_isCard.f k n x) (cardB n x) := by
  unfold impl_isCard.f cardB
  rw [w64 (x := n - 1) (by omega) (by omega)]
  refine Ev.const_bind (areWithin_eq x 0 (n - 1) hx) ?_
  cases inB 0 (n - 1) x with
  | false => exact Ev.if_neg' (by simp) (Ev.now _)
  | true => exact Ev.if_pos' rfl (Ev.bind (rises_ev x hx) (Ev.now _))
theorem all_ev (g : Nat → List Int → Option Bool) (b : List Int → Bool) (l : List (List Int)) (h : ∀ x ∈ l, Ev (fun k => g k x) (b x)) : ∃ K, ∀ k, K ≤ k → ∀ x ∈ l, g k x = some (b x) := by
  induction l with
  | nil => exact ⟨0, fun _ _ x hx => by simp at hx⟩
  | cons a t ih =>
    obtain ⟨K1, h1⟩ := ih (fun x hx => h x (List.mem_cons_of_mem _ hx))
    obtain ⟨K2, h2⟩ := h a List.mem_cons_self
    refine ⟨K1 + K2, fun k hk x hx => ?_⟩
    rcases List.mem_cons.1 hx with rfl | hx
    · exact h2 k (by omega)
    · exact h1 k (by omega) x hx
section
variable (n : Int) (l : List (List Int)) (hl : l.length ≤ 1048576) (hr : ∀ x ∈ l, x.length ≤ 1048576)
include hr in
theorem AreCards_ev : Ev (fun k => impl_AreCards.f k n l) (cardsB n l) := by
  unfold impl_AreCards.f cardsB
  refine Ev.const_bind (within_eq _ _ _) ?_
  by_cases hn : 1 ≤ n ∧ n ≤ 128
  · rw [decide_eq_true hn, Bool.true_and]
    refine Ev.if_pos' rfl ?_
    by_cases h12 : (l.length : Int) ≤ 12
    · rw [decide_eq_true h12, Bool.true_and]
      refine Ev.if_pos' h12 ?_
      obtain ⟨K, hK⟩ := all_ev (fun k x => impl_isCard.f k n x) (cardB n) l (fun x hx => isCard_ev n hn x (by have := hr x hx; omega))
      refine ⟨K, fun k hk => ?_⟩
      have h1 := hK k hk
      have hs : (l.all fun x => (impl_isCard.f k n x).isSome) = true := List.all_eq_true.2 fun x hx => by rw [h1 x hx]; rfl
      show (if (l.all fun x => (impl_isCard.f k n x).isSome) = true then some (l.all fun x => (impl_isCard.f k n x).getD false) else none) = some (l.all (cardB n))
      rw [if_pos hs]
      congr 1
      rw [Bool.eq_iff_iff, List.all_eq_true, List.all_eq_true]
      exact ⟨fun h x hx => by have := h x hx; rw [h1 x hx] at this; exact this, fun h x hx => by rw [h1 x hx]; exact h x hx⟩
    · rw [decide_eq_false h12, Bool.false_and]
      exact Ev.if_neg' h12 (Ev.now _)
  · rw [decide_eq_false hn, Bool.false_and]
    exact Ev.if_neg' (by simp) (Ev.now _)
include hl hr
theorem caGood_loop (hn : 1 ≤ n ∧ n ≤ 128) (d : Nat) : ∀ i : Nat, l.length - i = d → i ≤ l.length →
    Ev (fun k => spec_caGood.l0 k l (l.length : Int) (i : Int) n l) ((l.drop i).all (cardB n)) := by
  induction d with
  | zero =>
    intro i hd hi
    rw [List.drop_of_length_le (by omega)]
    exact Ev.one fun k => by rw [spec_caGood.l0, if_neg (by omega)]; rfl
  | succ d ih =>
    intro i hd hi
    have hil : i < l.length := by omega
    have h := ih (i + 1) (by omega) (by omega)
    have hx := hr l[i] (List.getElem_mem hil)
    rw [List.drop_eq_getElem_cons hil, List.all_cons]
    refine Ev.step (f := fun k => (spec_l1Rising.f k l[i] 0 (n - 1)).bind fun t => if t = true then spec_caGood.l0 k l (l.length : Int) ((i + 1 : Nat) : Int) n l else some false) (fun k => ?_) (Ev.bind (l1Rising_ev l[i] 0 (n - 1) (by omega)) ?_)
    · rw [spec_caGood.l0, if_pos (by omega), if_pos (by omega), if_pos (by omega), rd_L2_at l i hil, w64 (x := n - 1) (by omega) (by omega), w64 (x := (i : Int) + 1) (by omega) (by omega)]
      rfl
    · show Ev _ (cardB n l[i] && _)
      cases hc : cardB n l[i] with
      | true => exact Ev.if_pos' hc h
      | false => refine Ev.if_neg' (fun e => ?_) (Ev.now _); unfold cardB at hc; rw [e] at hc; cases hc
theorem caGood_ev : Ev (fun k => spec_caGood.f k n l) (cardsB n l) := by
  unfold spec_caGood.f cardsB
  have no : Ev (fun k => spec_caGood.j0 k true n l) false := Ev.one fun k => by rw [spec_caGood.j0, if_pos rfl]
  refine Ev.const_bind (l1In_eq _ _ _) ?_
  by_cases hn : 1 ≤ n ∧ n ≤ 128
  · rw [decide_eq_true hn, Bool.true_and]
    refine Ev.if_pos' rfl ?_
    by_cases h12 : (l.length : Int) ≤ 12
    · rw [decide_eq_true h12, Bool.true_and, show decide ((l.length : Int) > 12) = false from decide_eq_false (by omega)]
      refine Ev.step (fun k => ?_) (caGood_loop n l hl hr hn l.length 0 (by omega) (by omega))
      rw [spec_caGood.j0, if_neg (by simp)]
      rfl
    · rw [decide_eq_false h12, Bool.false_and, show decide ((l.length : Int) > 12) = true from decide_eq_true (by omega)]
      exact no
  · rw [decide_eq_false hn, Bool.false_and]
    exact Ev.if_neg' (by simp) no
end
theorem cards_facts {n : Int} {l : List (List Int)} (h : cardsB n l = true) : (1 ≤ n ∧ n ≤ 128) ∧ l.length ≤ 12 ∧ ∀ x ∈ l, risesB x = true ∧ ∀ y ∈ x, 0 ≤ y ∧ y ≤ n - 1 := by
  unfold cardsB at h
  rw [Bool.and_eq_true, Bool.and_eq_true, decide_eq_true_eq, decide_eq_true_eq] at h
  refine ⟨h.1, by omega, fun x hx => ?_⟩
  have := List.all_eq_true.1 h.2.2 x hx
  unfold cardB at this
  rw [Bool.and_eq_true] at this
  refine ⟨this.2, fun y hy => ?_⟩
  have := List.all_eq_true.1 this.1 y hy
  rw [Bool.and_eq_true, decide_eq_true_eq, decide_eq_true_eq] at this
  exact this

end Go.Proofs.YtpekdmadmggbpaaDoor.Pure

/- Plain lemmas: the answers of a number, by the reference and by the program. -/
namespace Go.Proofs.YtpekdmadmggbpaaDoor.Pure
open Go.RowKit Go.Proofs.YtpekdmadmggbpaaDoor.Nl Go.Proofs.YtpekdmadmggbpaaDoorW.PrintWords Go.Proofs.YtpekdmadmggbpaaDoorW.PrintLast

theorem rises_incr (x : List Int) (h : risesB x = true) : Incr x := by
  intro i j hij hj
  have hp := List.pairwise_iff_getElem.1 (rises_pairwise x h) i j (by omega) hj hij
  simpa [List.getD, hj, show i < x.length by omega] using hp
theorem has_loop (a : Int) (x : List Int) (hx : x.length ≤ 35184372088832) (d : Nat) : ∀ i : Nat, x.length - i = d → i ≤ x.length →
    Ev (fun k => spec_l1Has.l0 k a x (x.length : Int) (i : Int)) (decide (a ∈ x.drop i)) := by
  induction d with
  | zero =>
    intro i hd hi
    rw [List.drop_of_length_le (by omega)]
    exact Ev.one fun k => by rw [spec_l1Has.l0, if_neg (by omega)]; simp
  | succ d ih =>
    intro i hd hi
    have hil : i < x.length := by omega
    rw [List.drop_eq_getElem_cons hil]
    by_cases e : x[i] = a
    · refine Ev.one fun k => ?_
      rw [spec_l1Has.l0, if_pos (by omega), if_pos (by omega), if_pos (by omega), rd_eq x i hil, if_pos e]
      simp [e]
    · have e2 : decide (a ∈ x[i] :: x.drop (i + 1)) = decide (a ∈ x.drop (i + 1)) := by
        refine decide_eq_decide.2 ⟨fun h => ?_, fun h => List.mem_cons_of_mem _ h⟩
        rcases List.mem_cons.1 h with h | h
        · exact absurd h.symm e
        · exact h
      rw [e2]
      refine Ev.step (fun k => ?_) (ih (i + 1) (by omega) (by omega))
      rw [spec_l1Has.l0, if_pos (by omega), if_pos (by omega), if_pos (by omega), rd_eq x i hil, if_neg e, w64 (by omega) (by omega)]
      rfl
theorem l1Has_ev (a : Int) (x : List Int) (hx : x.length ≤ 35184372088832) : Ev (fun k => spec_l1Has.f k x a) (decide (a ∈ x)) := by
  unfold spec_l1Has.f
  exact has_loop a x hx x.length 0 (by omega) (by omega)
/-- 121 for a card that holds the number, 110 for one that does not. -/
def ansL (l : List (List Int)) (a : Int) : List Int := l.map fun x => if a ∈ x then 121 else 110
def ansT (l : List (List Int)) (a : Int) : ByteArray := strOfNums (ansL l a)
theorem str_app (A B : List Int) : strOfNums A ++ strOfNums B = strOfNums (A ++ B) := by
  unfold strOfNums
  apply ByteArray.ext
  rw [ByteArray.data_append]
  simp
theorem str_size (A : List Int) : (strOfNums A).size = A.length := by
  unfold strOfNums
  show (A.map _).toArray.size = _
  simp
theorem rd_L2_at' (l : List (List Int)) (i : Nat) (h : i < l.length) : rd_L1 l (i : Int) = l[i] := by simp [rd_L1, List.getD, h]
section
variable (n : Int) (l : List (List Int)) (h12 : l.length ≤ 12) (hr : ∀ x ∈ l, x.length ≤ 1048576)
include h12 hr
theorem spec_ans (a : Int) (d : Nat) : ∀ i : Nat, l.length - i = d → i ≤ l.length →
    Ev (fun k => spec_caAnswers.l0 k a (strOfNums (ansL (l.take i) a)) l (l.length : Int) (i : Int)) (ansT l a) := by
  induction d with
  | zero =>
    intro i hd hi
    refine Ev.one fun k => ?_
    rw [spec_caAnswers.l0, if_neg (by omega), List.take_of_length_le (by omega)]
    rfl
  | succ d ih =>
    intro i hd hi
    have hil : i < l.length := by omega
    have h := ih (i + 1) (by omega) (by omega)
    have hx := hr l[i] (List.getElem_mem hil)
    have hlen : (ansL (l.take i) a).length = i := by unfold ansL; simp; omega
    have e0 : ansL (l.take (i + 1)) a = ansL (l.take i) a ++ [if a ∈ l[i] then 121 else 110] := by unfold ansL; rw [List.take_succ_eq_append_getElem hil, List.map_append]; rfl
    rw [e0, ← str_app] at h
    refine Ev.step (f := fun k => (spec_l1Has.f k l[i] a).bind fun t166 => (if t166 = true then (if (strOfNums (ansL (l.take i) a)).size + 1 ≤ 9223372036854775807 then (spec_caAnswers.l0 k a (strOfNums (ansL (l.take i) a) ++ (⟨#[121]⟩ : ByteArray)) l (l.length : Int) ((i + 1 : Nat) : Int)) else (none)) else (if (strOfNums (ansL (l.take i) a)).size + 1 ≤ 9223372036854775807 then (spec_caAnswers.l0 k a (strOfNums (ansL (l.take i) a) ++ (⟨#[110]⟩ : ByteArray)) l (l.length : Int) ((i + 1 : Nat) : Int)) else (none)))) (fun k => ?_) (Ev.bind (l1Has_ev a l[i] (by omega)) ?_)
    · rw [spec_caAnswers.l0, if_pos (by omega), if_pos (by omega), if_pos (by omega), rd_L2_at' l i hil, w64 (x := (i : Int) + 1) (by omega) (by omega)]
      rfl
    · by_cases hm : a ∈ l[i]
      · rw [if_pos hm] at h
        exact Ev.if_pos' (decide_eq_true hm) (Ev.if_pos' (by rw [str_size]; omega) h)
      · rw [if_neg hm] at h
        exact Ev.if_neg' (by simpa using hm) (Ev.if_pos' (by rw [str_size]; omega) h)
theorem caAnswers_ev (a : Int) : Ev (fun k => spec_caAnswers.f k n l a) (ansT l a) := by
  unfold spec_caAnswers.f
  exact spec_ans l h12 hr a l.length 0 (by omega) (by omega)
theorem impl_ans (hri : ∀ x ∈ l, risesB x = true) (a : Int) (d : Nat) : ∀ i : Nat, l.length - i = d → i ≤ l.length →
    Ev (fun k => impl_Cards_answers.l0 k a (ansL (l.take i) a) l (l.length : Int) (i : Int)) (ansT l a) := by
  induction d with
  | zero =>
    intro i hd hi
    refine Ev.one fun k => ?_
    rw [impl_Cards_answers.l0, if_neg (by omega), List.take_of_length_le (by omega)]
    rfl
  | succ d ih =>
    intro i hd hi
    have hil : i < l.length := by omega
    have h := ih (i + 1) (by omega) (by omega)
    have hx := hr l[i] (List.getElem_mem hil)
    have hlen : (ansL (l.take i) a).length = i := by unfold ansL; simp; omega
    have e0 : ansL (l.take (i + 1)) a = ansL (l.take i) a ++ [if a ∈ l[i] then 121 else 110] := by unfold ansL; rw [List.take_succ_eq_append_getElem hil, List.map_append]; rfl
    rw [e0] at h
    obtain ⟨p, hp⟩ := search_ev l[i] (rises_incr _ (hri _ (List.getElem_mem hil))) (by omega) a
    refine Ev.step (f := fun k => (slices_BinarySearch_int_int.f k l[i] a).bind fun bt184 => (if bt184.2 = true then (if (ansL (l.take i) a).length < 140737488355328 then (impl_Cards_answers.l0 k a (ansL (l.take i) a ++ [121]) l (l.length : Int) ((i + 1 : Nat) : Int)) else (none)) else (if (ansL (l.take i) a).length < 140737488355328 then (impl_Cards_answers.l0 k a (ansL (l.take i) a ++ [110]) l (l.length : Int) ((i + 1 : Nat) : Int)) else (none)))) (fun k => ?_) (Ev.bind hp ?_)
    · rw [impl_Cards_answers.l0, if_pos (by omega), if_pos (by omega), if_pos (by omega), rd_L2_at' l i hil, w64 (x := (i : Int) + 1) (by omega) (by omega)]
      rfl
    · by_cases hm : a ∈ l[i]
      · rw [if_pos hm] at h
        exact Ev.if_pos' (decide_eq_true hm) (Ev.if_pos' (by omega) h)
      · rw [if_neg hm] at h
        exact Ev.if_neg' (by simpa using hm) (Ev.if_pos' (by omega) h)
theorem answers_ev (hri : ∀ x ∈ l, risesB x = true) (a : Int) : Ev (fun k => impl_Cards_answers.f k n l a) (ansT l a) := by
  unfold impl_Cards_answers.f
  exact impl_ans l h12 hr hri a l.length 0 (by omega) (by omega)
end

end Go.Proofs.YtpekdmadmggbpaaDoor.Pure

/- Plain lemmas: answers to cards: which are right, by the program and by the reference; the sum of the first numbers. -/
namespace Go.Proofs.YtpekdmadmggbpaaDoor.Pure
open Go.RowKit Go.Proofs.YtpekdmadmggbpaaDoor.Nl Go.Proofs.YtpekdmadmggbpaaDoorW.PrintWords Go.Proofs.YtpekdmadmggbpaaDoorW.PrintLast

def ynB (b : ByteArray) : Bool := b.data.toList.all spec_caAsked.isYn
theorem dropWhile_nil_yn (p : UInt8 → Bool) (l : List UInt8) : l.dropWhile p = [] ↔ l.all p = true := by
  induction l with
  | nil => simp
  | cons a t ih =>
    rw [List.dropWhile_cons, List.all_cons]
    cases h : p a
    · simp
    · simp [ih]
theorem trim_nil_yn (l cs : List UInt8) : Go.Lib.trimS l cs = [] ↔ l.all (cs.contains ·) = true := by
  unfold Go.Lib.trimS Go.Lib.trimLeftS Go.Lib.trimRightS
  rw [dropWhile_nil_yn]
  have h1 : (l.reverse.takeWhile (cs.contains ·) ++ l.reverse.dropWhile (cs.contains ·)) = l.reverse := List.takeWhile_append_dropWhile
  have h2 : (l.reverse.takeWhile (cs.contains ·)).all (cs.contains ·) = true := List.all_takeWhile
  have h3 : l.reverse.all (cs.contains ·) = ((l.reverse.takeWhile (cs.contains ·)).all (cs.contains ·) && (l.reverse.dropWhile (cs.contains ·)).all (cs.contains ·)) := by
    conv => lhs; rw [← h1]
    rw [List.all_append]
  rw [h2, Bool.true_and, List.all_reverse] at h3
  rw [List.all_reverse, ← h3]
theorem yn_contains (u : UInt8) : [121, 110].contains u = spec_caAsked.isYn u := by
  unfold spec_caAsked.isYn
  have h1 : u = 121 ↔ u.toNat = 121 := ⟨fun h => by rw [h]; rfl, fun h => UInt8.toNat_inj.1 (by rw [h]; rfl)⟩
  have h2 : u = 110 ↔ u.toNat = 110 := ⟨fun h => by rw [h]; rfl, fun h => UInt8.toNat_inj.1 (by rw [h]; rfl)⟩
  rw [Bool.eq_iff_iff]
  simp only [List.contains_cons, List.contains_nil, Bool.or_false, Bool.or_eq_true, beq_iff_eq, h1, h2, decide_eq_true_eq]
theorem Trim_yn (b : ByteArray) (h : b.size ≤ 1000000) : ∃ t, strings_Trim.f b (⟨#[121, 110]⟩ : ByteArray) = some t ∧ (t.toList == ([] : List UInt8)) = ynB b := by
  refine ⟨⟨(Go.Lib.trimS b.data.toList [121, 110]).toArray⟩, ?_, ?_⟩
  · unfold strings_Trim.f
    rw [if_pos ⟨h, by decide, by decide⟩]
  · rw [Go.Lib.toList_data, Bool.eq_iff_iff, beq_iff_eq]
    show Go.Lib.trimS b.data.toList [121, 110] = [] ↔ _
    rw [trim_nil_yn, funext yn_contains]
    rfl
def asksB (n : Int) (l : List (List Int)) (b : ByteArray) : Bool := cardsB n l && (decide ((b.size : Int) = (l.length : Int)) && ynB b)
section
variable (n : Int) (l : List (List Int)) (hl : l.length ≤ 1048576) (hr : ∀ x ∈ l, x.length ≤ 1048576) (b : ByteArray)
include hl hr
theorem caAsked_ev : Ev (fun k => spec_caAsked.f k n l b) (asksB n l b) := by
  unfold spec_caAsked.f asksB
  cases hc : cardsB n l with
  | false => exact Ev.bind (caGood_ev n l hl hr) (Ev.if_neg' (by simp [hc]) (Ev.now _))
  | true =>
    rw [Bool.true_and]
    refine Ev.bind (caGood_ev n l hl hr) (Ev.if_pos' hc ?_)
    by_cases e : (b.size : Int) = (l.length : Int)
    · rw [decide_eq_true e, Bool.true_and]
      exact Ev.if_pos' e (Ev.now _)
    · rw [decide_eq_false e, Bool.false_and]
      exact Ev.if_neg' e (Ev.now _)
theorem areAnswers_ev : Ev (fun k => impl_areAnswers.f k n l b) (asksB n l b) := by
  unfold impl_areAnswers.f asksB
  cases hc : cardsB n l with
  | false => exact Ev.bind (AreCards_ev n l hr) (Ev.if_neg' (by simp [hc]) (Ev.now _))
  | true =>
    rw [Bool.true_and]
    refine Ev.bind (AreCards_ev n l hr) (Ev.if_pos' hc ?_)
    by_cases e : (b.size : Int) = (l.length : Int)
    · rw [decide_eq_true e, Bool.true_and]
      have h12 := (cards_facts hc).2.1
      obtain ⟨t, h1, h2⟩ := Trim_yn b (by omega)
      exact Ev.if_pos' e (Ev.const_bind h1 (by rw [h2]; exact Ev.now _))
    · rw [decide_eq_false e, Bool.false_and]
      exact Ev.if_neg' e (Ev.now _)
end
theorem asks_facts {n : Int} {l : List (List Int)} {b : ByteArray} (h : asksB n l b = true) : cardsB n l = true ∧ b.size = l.length ∧ ynB b = true := by
  unfold asksB at h
  rw [Bool.and_eq_true, Bool.and_eq_true, decide_eq_true_eq] at h
  exact ⟨h.1, by omega, h.2.2⟩
theorem ansT_size (l : List (List Int)) (a : Int) : (ansT l a).size = l.length := by
  unfold ansT ansL
  rw [str_size, List.length_map]
theorem ansT_yn (l : List (List Int)) (a : Int) : ynB (ansT l a) = true := by
  unfold ynB ansT ansL strOfNums
  rw [List.all_eq_true]
  intro u hu
  simp only [List.map_map, List.mem_map, Function.comp] at hu
  obtain ⟨x, _, rfl⟩ := hu
  by_cases h : a ∈ x
  · rw [if_pos h]; decide
  · rw [if_neg h]; decide
theorem asks_own {n : Int} {l : List (List Int)} (h : cardsB n l = true) (a : Int) : asksB n l (ansT l a) = true := by
  unfold asksB
  rw [h, ansT_yn, decide_eq_true (by rw [ansT_size])]
  rfl

end Go.Proofs.YtpekdmadmggbpaaDoor.Pure

/- Plain lemmas: answers with lies: how many, the first, and the numbers that fit, by the program and by the reference. -/
namespace Go.Proofs.YtpekdmadmggbpaaDoor.Pure
open Go.RowKit Go.Proofs.YtpekdmadmggbpaaDoor.Nl Go.Proofs.YtpekdmadmggbpaaDoorW.PrintWords Go.Proofs.YtpekdmadmggbpaaDoorW.PrintLast

/-- At how many places two texts differ. -/
def dN : List UInt8 → List UInt8 → Int
  | [], _ => 0
  | _ :: _, [] => 0
  | x :: s, y :: t => if x = y then dN s t else dN s t + 1
/-- The first place at which they differ; -1: none. -/
def dF : List UInt8 → List UInt8 → Int → Int
  | [], _, _ => -1
  | _ :: _, [], _ => -1
  | x :: s, y :: t, i => if x = y then dF s t (i + 1) else i
theorem dN_nonneg : ∀ s t : List UInt8, 0 ≤ dN s t
  | [], _ => Int.le_refl _
  | _ :: _, [] => Int.le_refl _
  | x :: s, y :: t => by
    unfold dN
    have := dN_nonneg s t
    split <;> omega
theorem dN_le : ∀ s t : List UInt8, dN s t ≤ s.length
  | [], _ => Int.le_refl _
  | _ :: _, [] => by unfold dN; omega
  | x :: s, y :: t => by
    unfold dN
    have := dN_le s t
    rw [List.length_cons]
    split <;> omega
theorem apart_fst : ∀ (s t : List UInt8) (i n last : Int), (spec_caApart.apartL s t i n last).1 = n + dN s t
  | [], _, _, _, _ => by unfold spec_caApart.apartL dN; simp
  | _ :: _, [], _, _, _ => by unfold spec_caApart.apartL dN; simp
  | x :: s, y :: t, i, n, last => by
    unfold spec_caApart.apartL dN
    by_cases h : x = y
    · rw [if_pos h, if_pos h]; exact apart_fst s t _ _ _
    · rw [if_neg h, if_neg h, apart_fst s t]; omega
theorem apart_none : ∀ (s t : List UInt8) (i n last : Int), dN s t ≤ 0 → (spec_caApart.apartL s t i n last).2 = last
  | [], _, _, _, _ => fun _ => by unfold spec_caApart.apartL; rfl
  | _ :: _, [], _, _, _ => fun _ => by unfold spec_caApart.apartL; rfl
  | x :: s, y :: t, i, n, last => fun hd => by
    unfold spec_caApart.apartL
    unfold dN at hd
    by_cases h : x = y
    · rw [if_pos h] at hd ⊢; exact apart_none s t _ _ _ hd
    · rw [if_neg h] at hd
      have := dN_nonneg s t
      omega
theorem apart_snd : ∀ (s t : List UInt8) (i n : Int), dN s t ≤ 1 → (spec_caApart.apartL s t i n (-1)).2 = dF s t i
  | [], _, _, _ => fun _ => by unfold spec_caApart.apartL dF; rfl
  | _ :: _, [], _, _ => fun _ => by unfold spec_caApart.apartL dF; rfl
  | x :: s, y :: t, i, n => fun hd => by
    unfold spec_caApart.apartL dF
    unfold dN at hd
    by_cases h : x = y
    · rw [if_pos h] at hd; rw [if_pos h, if_pos h]; exact apart_snd s t _ _ hd
    · rw [if_neg h] at hd; rw [if_neg h, if_neg h]; exact apart_none s t _ _ _ (by omega)
theorem size_list' (b : ByteArray) : b.data.toList.length = b.size := by
  rw [Array.length_toList]; rfl
theorem bt_list' (b : ByteArray) (i : Nat) (h : i < b.size) : bt b (i : Int) = ((b.data.toList[i]'(by rw [size_list']; exact h)).toNat : Int) := by
  unfold bt
  rw [dif_pos (by rw [Int.toNat_natCast]; exact h)]
  simp [ByteArray.getElem_eq_getElem_data]
theorem bt_eq_iff (a b : ByteArray) (i : Nat) (ha : i < a.size) (hb : i < b.size) : bt a (i : Int) = bt b (i : Int) ↔ a.data.toList[i]'(by rw [size_list']; exact ha) = b.data.toList[i]'(by rw [size_list']; exact hb) := by
  rw [bt_list' a i ha, bt_list' b i hb]
  exact ⟨fun h => UInt8.toNat_inj.1 (by omega), fun h => by rw [h]⟩
theorem differ_loop (a b : ByteArray) (hab : a.size ≤ b.size) (hs : a.size ≤ 1000000) (d : Nat) : ∀ (i : Nat) (n : Int), a.size - i = d → i ≤ a.size → 0 ≤ n → n ≤ i →
    Ev (fun k => impl_differ.l0 k a b n (a.size : Int) (i : Int)) (n + dN (a.data.toList.drop i) (b.data.toList.drop i)) := by
  induction d with
  | zero =>
    intro i n hd hi h0 h1
    rw [List.drop_of_length_le (by rw [size_list']; omega)]
    refine Ev.one fun k => ?_
    rw [impl_differ.l0, if_neg (by omega)]
    unfold dN
    rw [Int.add_zero]
  | succ d ih =>
    intro i n hd hi h0 h1
    have hil : i < a.size := by omega
    have hw : wrap64 ((i : Int) + 1) = ((i + 1 : Nat) : Int) := w64 (by omega) (by omega)
    have hwn : wrap64 (n + 1) = n + 1 := w64 (by omega) (by omega)
    rw [List.drop_eq_getElem_cons (by rw [size_list']; exact hil), List.drop_eq_getElem_cons (l := b.data.toList) (by rw [size_list']; omega), dN]
    have hb := bt_eq_iff a b i hil (by omega)
    by_cases h : bt a (i : Int) = bt b (i : Int)
    · rw [if_pos (hb.1 h)]
      refine Ev.step (fun k => ?_) (ih (i + 1) n (by omega) (by omega) h0 (by omega))
      rw [impl_differ.l0, if_pos (by omega), if_pos (by omega), if_pos (by omega), if_pos (by omega), if_pos h, hw]
    · rw [if_neg (fun e => h (hb.2 e)), show ∀ z : Int, n + (z + 1) = n + 1 + z by intro z; omega]
      refine Ev.step (fun k => ?_) (ih (i + 1) (n + 1) (by omega) (by omega) (by omega) (by omega))
      rw [impl_differ.l0, if_pos (by omega), if_pos (by omega), if_pos (by omega), if_pos (by omega), if_neg h, hw, hwn]
theorem differ_ev (a b : ByteArray) (hab : a.size ≤ b.size) (hs : a.size ≤ 1000000) : Ev (fun k => impl_differ.f k a b) (dN a.data.toList b.data.toList) := by
  unfold impl_differ.f
  have := differ_loop a b hab hs a.size 0 0 (by omega) (by omega) (by omega) (by omega)
  rwa [Int.zero_add] at this
theorem ansT_ascii (l : List (List Int)) (a : Int) : ((ansT l a).data.toList.all fun b => decide (b.toNat < 128)) = true := by
  rw [List.all_eq_true]
  intro u hu
  have := List.all_eq_true.1 (ansT_yn l a) u hu
  unfold spec_caAsked.isYn at this
  rw [Bool.or_eq_true, decide_eq_true_eq, decide_eq_true_eq] at this
  rw [decide_eq_true_eq]
  omega
theorem apart_eq (l : List (List Int)) (h12 : l.length ≤ 12) (a : Int) (b : ByteArray) (hb : l.length ≤ b.size) : spec_caApart.f (ansT l a) b = some (spec_caApart.apartL (ansT l a).data.toList b.data.toList 0 0 (-1)) := by
  unfold spec_caApart.f
  rw [if_pos ⟨by rw [ansT_size]; exact hb, by rw [ansT_size]; omega, ansT_ascii l a⟩]
/-- Whether a number has at most so many lies. -/
def fits (l : List (List Int)) (b : ByteArray) (lies x : Int) : Bool := decide (dN (ansT l x).data.toList b.data.toList ≤ lies)
theorem caWith_loop (n : Int) (l : List (List Int)) (b : ByteArray) (lies : Int) (hc : cardsB n l = true) (hr : ∀ x ∈ l, x.length ≤ 1048576) (hb : l.length ≤ b.size) (d : Nat) : ∀ x : Nat, n.toNat - x = d → (x : Int) ≤ n →
    Ev (fun k => spec_caWith.l0 k b lies (impl_cardOf.card (fits l b lies) x) (x : Int) n l) (impl_cardOf.card (fits l b lies) n.toNat) := by
  obtain ⟨hn, h12, _⟩ := cards_facts hc
  induction d with
  | zero =>
    intro x hd hx
    have : x = n.toNat := by omega
    subst this
    exact Ev.one fun k => by rw [spec_caWith.l0, if_neg (by omega)]
  | succ d ih =>
    intro x hd hx
    have h := ih (x + 1) (by omega) (by omega)
    have hw : wrap64 ((x : Int) + 1) = ((x + 1 : Nat) : Int) := w64 (by omega) (by omega)
    have hl := impl_cardOf.card_le (fits l b lies) x
    rw [impl_cardOf.card_step] at h
    have A := caAnswers_ev n l h12 hr (x : Int)
    have P := apart_eq l h12 (x : Int) b hb
    have F : (spec_caApart.apartL (ansT l (x : Int)).data.toList b.data.toList 0 0 (-1)).1 = dN (ansT l (x : Int)).data.toList b.data.toList := by rw [apart_fst, Int.zero_add]
    refine Ev.step (f := fun k => (spec_caAnswers.f k n l (x : Int)).bind fun t => (spec_caApart.f t b).bind fun bt => if bt.1 ≤ lies then (if (impl_cardOf.card (fits l b lies) x).length < 17592186044416 then spec_caWith.l0 k b lies (impl_cardOf.card (fits l b lies) x ++ [(x : Int)]) ((x + 1 : Nat) : Int) n l else none) else spec_caWith.l0 k b lies (impl_cardOf.card (fits l b lies) x) ((x + 1 : Nat) : Int) n l) (fun k => ?_) (Ev.bind A (Ev.const_bind P ?_))
    · rw [spec_caWith.l0, if_pos (by omega), hw]
    · cases hf : fits l b lies (x : Int) with
      | true =>
        rw [if_pos hf] at h
        exact Ev.if_pos' (by rw [F]; exact of_decide_eq_true hf) (Ev.if_pos' (by omega) h)
      | false =>
        rw [if_neg (by rw [hf]; simp)] at h
        exact Ev.if_neg' (by rw [F]; exact of_decide_eq_false hf) h
theorem caWith_ev (n : Int) (l : List (List Int)) (b : ByteArray) (lies : Int) (hc : cardsB n l = true) (hr : ∀ x ∈ l, x.length ≤ 1048576) (hb : l.length ≤ b.size) :
    Ev (fun k => spec_caWith.f k n l b lies) (impl_cardOf.card (fits l b lies) n.toNat) := by
  have hn := (cards_facts hc).1
  unfold spec_caWith.f
  exact caWith_loop n l b lies hc hr hb n.toNat 0 (by omega) (by omega)
theorem many_ev {β : Type} (g : Nat → Int → Option β) (v : Int → β) (m : Nat) (h : ∀ i : Nat, Ev (fun k => g k (i : Int)) (v (i : Int))) : ∃ K, ∀ k, K ≤ k → ∀ i : Nat, i < m → g k (i : Int) = some (v (i : Int)) := by
  induction m with
  | zero => exact ⟨0, fun _ _ i hi => by omega⟩
  | succ m ih =>
    obtain ⟨K1, h1⟩ := ih
    obtain ⟨K2, h2⟩ := h m
    refine ⟨K1 + K2, fun k hk i hi => ?_⟩
    by_cases e : i = m
    · subst e; exact h2 k (by omega)
    · exact h1 k (by omega) i (by omega)
theorem Lies_ev (n : Int) (l : List (List Int)) (b : ByteArray) (lies : Int) (hq : asksB n l b = true) (hlies : 0 ≤ lies ∧ lies ≤ 12) (hl : l.length ≤ 1048576) (hr : ∀ x ∈ l, x.length ≤ 1048576) :
    Ev (fun k => impl_NumbersWithLies.f k n l b lies) (impl_cardOf.card (fits l b lies) n.toNat, true) := by
  obtain ⟨hc, hs, _⟩ := asks_facts hq
  obtain ⟨hn, h12, hx⟩ := cards_facts hc
  unfold impl_NumbersWithLies.f
  refine Ev.bind (areAnswers_ev n l hl hr b) (Ev.if_pos' hq (Ev.const_bind (within_eq _ _ _) (Ev.if_pos' (decide_eq_true hlies) ?_)))
  obtain ⟨K, hK⟩ := many_ev (fun k x => impl_NumbersWithLies.g k n l b x) (fun x => dN (ansT l x).data.toList b.data.toList) n.toNat (fun i => by
    unfold impl_NumbersWithLies.g
    exact Ev.bind (answers_ev n l h12 hr (fun x hx' => (hx x hx').1) (i : Int)) (differ_ev _ _ (by rw [ansT_size]; omega) (by rw [ansT_size]; omega)))
  refine ⟨K, fun k hk => ?_⟩
  have h1 := hK k hk
  show (if _ then _ else _) = _
  rw [if_pos ⟨by omega, by omega, List.all_eq_true.2 fun i hi => by have := h1 i (List.mem_range.1 hi); simp only [this]; rfl⟩]
  congr 2
  unfold impl_cardOf.card
  refine List.filter_congr fun x hx' => ?_
  obtain ⟨i, hi, rfl⟩ := List.mem_map.1 hx'
  have := h1 i (List.mem_range.1 hi)
  simp only [this]
  rfl
theorem Lies_no (n : Int) (l : List (List Int)) (b : ByteArray) (lies : Int) (hq : asksB n l b = false) (hl : l.length ≤ 1048576) (hr : ∀ x ∈ l, x.length ≤ 1048576) :
    Ev (fun k => impl_NumbersWithLies.f k n l b lies) ([], false) := by
  unfold impl_NumbersWithLies.f
  exact Ev.bind (areAnswers_ev n l hl hr b) (Ev.if_neg' (by simp [hq]) (Ev.now _))
theorem Lies_off (n : Int) (l : List (List Int)) (b : ByteArray) (lies : Int) (hq : asksB n l b = true) (hlies : ¬ (0 ≤ lies ∧ lies ≤ 12)) (hl : l.length ≤ 1048576) (hr : ∀ x ∈ l, x.length ≤ 1048576) :
    Ev (fun k => impl_NumbersWithLies.f k n l b lies) ([], false) := by
  unfold impl_NumbersWithLies.f
  exact Ev.bind (areAnswers_ev n l hl hr b) (Ev.if_pos' hq (Ev.const_bind (within_eq _ _ _) (Ev.if_neg' (by rw [decide_eq_false hlies]; simp) (Ev.now _))))

end Go.Proofs.YtpekdmadmggbpaaDoor.Pure

/- Plain lemmas: a list that is marked with 1, 2, .. holds just these marks. -/
namespace Go.Proofs.YtpekdmadmggbpaaDoor.Pure
open Go.RowKit Go.Proofs.YtpekdmadmggbpaaDoor.Nl Go.Proofs.YtpekdmadmggbpaaDoorW.PrintWords Go.Proofs.YtpekdmadmggbpaaDoorW.PrintLast

/-- s, s + 1, .., n numbers. -/
def upfrom (s : Int) : Nat → List Int
  | 0 => []
  | n + 1 => s :: upfrom (s + 1) n
theorem upfrom_length (n : Nat) : ∀ s, (upfrom s n).length = n := by
  induction n with
  | zero => intro s; rfl
  | succ n ih => intro s; simp [upfrom, ih]
theorem upfrom_get (n : Nat) : ∀ (s : Int) (i : Nat), i < n → (upfrom s n).getD i 0 = s + i := by
  induction n with
  | zero => intro s i h; omega
  | succ n ih =>
    intro s i h
    cases i with
    | zero => simp [upfrom]
    | succ i =>
      have := ih (s + 1) i (by omega)
      simp only [upfrom, List.getD_cons_succ, this]
      omega
theorem mark_loop (n : Nat) : ∀ (A B : List Int) (s : Int), B.length = n → A.length + n ≤ 35184372088832 → 0 ≤ s → s + n ≤ 70368744177664 →
    Ev (fun k => laws_markIntS.l0 k (A ++ B) s (A.length : Int)) (s + n, A ++ upfrom s n) := by
  induction n with
  | zero =>
    intro A B s hB hn h0 h1
    obtain rfl := List.eq_nil_of_length_eq_zero hB
    refine Ev.one fun k => ?_
    rw [laws_markIntS.l0, if_neg (by simp)]
    simp [upfrom]
  | succ n ih =>
    intro A B s hB hn h0 h1
    cases B with
    | nil => simp at hB
    | cons b B =>
      have h := ih (A ++ [s]) B (s + 1) (by simpa using hB) (by simp; omega) (by omega) (by omega)
      refine Ev.step (f := fun k => laws_markIntS.l0 k ((A ++ [s]) ++ B) (s + 1) ((A ++ [s]).length : Int)) (fun k => ?_) ?_
      · rw [laws_markIntS.l0, if_pos (by simp; omega), if_pos (by omega), w64 (by omega) (by omega), w64 (by omega) (by omega)]
        simp
      · have e : s + 1 + (n : Int) = s + ((n + 1 : Nat) : Int) := by omega
        rw [e] at h
        simpa [upfrom] using h
theorem held_loop (n : Nat) (L : List Int) (d : Nat) : ∀ (i : Nat) (s : Int), n - i = d → i ≤ n → L.length = n → n ≤ 35184372088832 → 0 ≤ s → s + d ≤ 70368744177664 → (∀ j, i ≤ j → j < n → L.getD j 0 = s + ((j - i : Nat) : Int)) →
    Ev (fun k => laws_heldIntS.l0 k L s (i : Int)) (s + d) := by
  induction d with
  | zero =>
    intro i s hd hi hL hn h0 h1 hv
    refine Ev.one fun k => ?_
    rw [laws_heldIntS.l0, if_neg (by omega)]
    simp
  | succ d ih =>
    intro i s hd hi hL hn h0 h1 hv
    have h := ih (i + 1) (s + 1) (by omega) (by omega) hL hn (by omega) (by omega) (fun j hj hj' => by rw [hv j (by omega) hj']; omega)
    have e : s + 1 + (d : Int) = s + ((d + 1 : Nat) : Int) := by omega
    rw [e] at h
    refine Ev.step (fun k => ?_) h
    have hg := hv i (by omega) (by omega)
    rw [laws_heldIntS.l0, if_pos (by omega), if_pos (by omega), rd_nat, hg, if_pos (by omega), w64 (by omega) (by omega), w64 (by omega) (by omega)]
    rfl
theorem mark_ev (l : List Int) (hl : l.length ≤ 35184372088831) : Ev (fun k => laws_markIntS.f k l 1) (1 + (l.length : Int), upfrom 1 l.length) := by
  unfold laws_markIntS.f
  simpa using mark_loop l.length [] l 1 rfl (by simp; omega) (by omega) (by omega)
theorem held_ev (n : Nat) (hn : n ≤ 35184372088831) : Ev (fun k => laws_heldIntS.f k (upfrom 1 n) 1) (1 + (n : Int)) := by
  unfold laws_heldIntS.f
  exact held_loop n (upfrom 1 n) n 0 1 (by omega) (by omega) (upfrom_length n 1) (by omega) (by omega) (by omega) (fun j _ hj => by rw [upfrom_get n 1 j hj]; simp)

end Go.Proofs.YtpekdmadmggbpaaDoor.Pure

/- Plain lemmas: rows of rows that are marked: the last mark. -/
namespace Go.Proofs.YtpekdmadmggbpaaDoor.Pure
open Go.RowKit Go.Proofs.YtpekdmadmggbpaaDoor.Nl Go.Proofs.YtpekdmadmggbpaaDoorW.PrintWords Go.Proofs.YtpekdmadmggbpaaDoorW.PrintLast

theorem mark_any (x : List Int) (s : Int) (hx : x.length ≤ 1048576) (h0 : 0 ≤ s) (h1 : s ≤ 35184372088832) : Ev (fun k => laws_markIntS.f k x s) (s + x.length, upfrom s x.length) := by
  unfold laws_markIntS.f
  have := mark_loop x.length [] x s rfl (by simp; omega) h0 (by omega)
  simpa using this
theorem markSS_g : ∀ (l : List (List Int)) (a : Int), (∀ x ∈ l, x.length ≤ 1048576) → 0 ≤ a → a + (l.length : Int) * 1048576 ≤ 35184372088832 → ∃ r : Int × List (List Int), Ev (fun k => laws_markIntSS.g k l a) r ∧ a ≤ r.1
  | [], a => fun _ _ _ => ⟨(a, []), Ev.now _, Int.le_refl _⟩
  | x :: t, a => fun hx h0 h1 => by
    have hxl := hx x List.mem_cons_self
    rw [List.length_cons] at h1
    have hm := mark_any x a hxl h0 (by omega)
    obtain ⟨r, h2, h3⟩ := markSS_g t (a + x.length) (fun y hy => hx y (List.mem_cons_of_mem _ hy)) (by omega) (by omega)
    refine ⟨(r.1, upfrom a x.length :: r.2), ?_, by show a ≤ r.1; omega⟩
    show Ev (fun k => (laws_markIntS.f k x a).bind fun r => (laws_markIntSS.g k t r.1).bind fun s => some (s.1, r.2 :: s.2)) _
    exact Ev.bind hm (Ev.bind h2 (Ev.now _))
theorem markCards_ev (n : Int) (l : List (List Int)) (hl : l.length ≤ 1048576) (hr : ∀ x ∈ l, x.length ≤ 1048576) : ∃ r : Int, Ev (fun k => laws_markCards.f k n l 1) r ∧ 0 ≤ r := by
  obtain ⟨r, h1, h2⟩ := markSS_g l 1 hr (by omega) (by omega)
  refine ⟨r.1, ?_, by omega⟩
  unfold laws_markCards.f laws_markIntSS.f
  exact Ev.bind (Ev.if_pos' (by omega) h1) (Ev.now _)

end Go.Proofs.YtpekdmadmggbpaaDoor.Pure
