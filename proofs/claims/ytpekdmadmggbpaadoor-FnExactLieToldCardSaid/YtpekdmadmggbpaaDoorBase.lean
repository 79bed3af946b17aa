/- Plain lemmas on the laws' own helpers: copying a list, comparing two lists. -/
import Derived.Test.YtpekdmadmggbpaaDoorWWords
import Derived.Test.YtpekdmadmggbpaaDoorWMore
import Derived.Test.YtpekdmadmggbpaaDoorGx3
import Derived.Test.YtpekdmadmggbpaaDoorGx6
import Derived.Test.YtpekdmadmggbpaaDoorGx1
namespace Go.Proofs.YtpekdmadmggbpaaDoor.Pure
open Go.RowKit Go.Proofs.YtpekdmadmggbpaaDoor.G Go.Proofs.YtpekdmadmggbpaaDoorW.PrintWords Go.Proofs.YtpekdmadmggbpaaDoorW.PrintLast

theorem Ev.eq {α : Type} {g f : Nat → Option α} {r : α} (h : ∀ k, g (k + 1) = f k) (k : Ev f r) : Ev g r := Ev.step h k
theorem Ev.pure' {α : Type} {g : Nat → Option α} {r : α} (h : ∀ k, g k = some r) : Ev g r := ⟨0, fun k _ => h k⟩
theorem Ev.one {α : Type} {g : Nat → Option α} {r : α} (h : ∀ k, g (k + 1) = some r) : Ev g r := Ev.step (f := fun _ => some r) h (Ev.now r)
theorem Ev.some_bind {α β : Type} {f : Nat → α → Option β} {a : α} {r : β} (h : Ev (fun n => f n a) r) : Ev (fun n => (some a).bind (f n)) r := h
theorem Ev.if_pos' {α : Type} {c : Prop} [Decidable c] {g f : Nat → Option α} {r : α} (hc : c) (h : Ev g r) : Ev (fun n => if c then g n else f n) r := by
  simpa only [if_pos hc] using h
theorem Ev.if_neg' {α : Type} {c : Prop} [Decidable c] {g f : Nat → Option α} {r : α} (hc : ¬ c) (h : Ev f r) : Ev (fun n => if c then g n else f n) r := by
  simpa only [if_neg hc] using h
theorem Ev.const_bind {α β : Type} {g : Option α} {f : Nat → α → Option β} {a : α} {r : β} (h : g = some a) (k : Ev (fun n => f n a) r) : Ev (fun n => g.bind (f n)) r := by
  simpa only [h, Option.bind_some] using k
/-- More rounds may be taken. -/
theorem Ev.le {α : Type} {g f : Nat → Option α} {r : α} (h : Ev g r) (hle : ∀ k, LeO (g k) (f k)) : Ev f r := by
  obtain ⟨K, hK⟩ := h
  exact ⟨K, fun k hk => hle k _ (hK k hk)⟩

theorem w64 {x : Int} (h0 : -9223372036854775808 ≤ x) (h1 : x ≤ 9223372036854775807) : wrap64 x = x := by unfold wrap64; omega
theorem rd_eq (l : List Int) (i : Nat) (h : i < l.length) : rd l (i : Int) = l[i] := by simp [rd, h]
theorem rd_nat (l : List Int) (i : Nat) : rd l (i : Int) = l.getD i 0 := rfl

theorem l1In_eq (a b c : Int) : spec_l1In.f a b c = some (decide (b ≤ a ∧ a ≤ c)) := by
  unfold spec_l1In.f
  by_cases h : a ≥ b <;> simp [h, ge_iff_le] <;> omega
theorem set_split (l : List Int) (i : Nat) (h : i < l.length) (v : Int) : l.set i v = l.take i ++ v :: l.drop (i + 1) := by
  rw [List.set_eq_take_append_cons_drop, if_pos h]

theorem toIntS_loop (l : List Int) (hl : l.length ≤ 35184372088832) (d : Nat) : ∀ (i : Nat) (acc : List Int), acc.length = l.length → l.length - i = d → i ≤ l.length → acc.take i = l.take i →
    Ev (fun k => laws_toIntS.l0 k l acc (i : Int)) l := by
  induction d with
  | zero =>
    intro i acc ha hd hi he
    have hil : i = l.length := by omega
    refine Ev.one fun k => ?_
    rw [laws_toIntS.l0, if_neg (by omega)]
    have := he; rw [hil] at this
    rw [List.take_length, ← ha, List.take_length] at this
    rw [this]
  | succ d ih =>
    intro i acc ha hd hi he
    refine Ev.step (f := fun k => laws_toIntS.l0 k l (acc.set i l[i]!) ((i + 1 : Nat) : Int)) (fun k => ?_) (ih (i + 1) _ (by simpa using ha) (by omega) (by omega) ?_)
    · rw [laws_toIntS.l0, if_pos (by omega), if_pos (by omega), if_pos (by omega), w64 (by omega) (by omega)]
      have : rd l (i : Int) = l[i]! := by rw [rd_eq l i (by omega), getElem!_pos l i (by omega)]
      rw [this]
      rfl
    · rw [getElem!_pos l i (by omega), List.take_succ_eq_append_getElem (by simp; omega), List.take_succ_eq_append_getElem (l := l) (by omega), List.take_set_of_le (by omega), he]
      simp
theorem toIntS_ev (l : List Int) (hl : l.length ≤ 35184372088832) : Ev (fun k => laws_toIntS.f k l) l := by
  unfold laws_toIntS.f
  refine Ev.if_pos' (by omega) (Ev.if_pos' (by omega) ?_)
  exact toIntS_loop l hl l.length 0 _ (by simp) (by omega) (by omega) (by simp)

theorem eqIntS_loop (a b : List Int) (hab : a.length = b.length) (hl : a.length ≤ 35184372088832) (d : Nat) : ∀ (i : Nat), a.length - i = d → i ≤ a.length →
    Ev (fun k => laws_eqIntS.l0 k a b (i : Int)) (decide (a.drop i = b.drop i)) := by
  induction d with
  | zero =>
    intro i hd hi
    refine Ev.one fun k => ?_
    rw [laws_eqIntS.l0, if_neg (by omega), List.drop_of_length_le (by omega), List.drop_of_length_le (by omega)]
    simp
  | succ d ih =>
    intro i hd hi
    have hi' : i < a.length := by omega
    have h := ih (i + 1) (by omega) (by omega)
    have hib : i < b.length := by omega
    rw [List.drop_eq_getElem_cons hi', List.drop_eq_getElem_cons hib]
    by_cases he : a[i] = b[i]
    · refine Ev.step (f := fun k => laws_eqIntS.l0 k a b ((i + 1 : Nat) : Int)) (fun k => ?_) (by simp only [he, List.cons.injEq, true_and]; exact h)
      rw [laws_eqIntS.l0, if_pos (by omega), if_pos (by omega), if_pos (by omega), if_pos (by rw [rd_eq a i hi', rd_eq b i hib, he]), w64 (by omega) (by omega)]
      rfl
    · refine Ev.one fun k => ?_
      rw [laws_eqIntS.l0, if_pos (by omega), if_pos (by omega), if_pos (by omega), if_neg (by rw [rd_eq a i hi', rd_eq b i hib]; exact he)]
      rw [decide_eq_false (fun e => he (List.cons.inj e).1)]
theorem eqIntS_ev (a b : List Int) (hl : a.length ≤ 35184372088832) : Ev (fun k => laws_eqIntS.f k a b) (decide (a = b)) := by
  unfold laws_eqIntS.f
  by_cases h : a.length = b.length
  · refine Ev.if_pos' (by omega) ?_
    simpa using eqIntS_loop a b h hl a.length 0 (by omega) (by omega)
  · refine Ev.if_neg' (by omega) ?_
    rw [decide_eq_false (fun e => h (by rw [e]))]
    exact Ev.now _
theorem eqIntS_self (a : List Int) (hl : a.length ≤ 35184372088832) : Ev (fun k => laws_eqIntS.f k a a) true := by
  simpa using eqIntS_ev a a hl

end Go.Proofs.YtpekdmadmggbpaaDoor.Pure
