/- Plain lemmas of several texts in one: EvBase, Within0, Bal0. -/
import Derived.Test.YtgcpjjifiebijaaWWords
import Derived.Test.YtgcpjjifiebijaaWMore
import Derived.Test.YtgcpjjifiebijaaBox1
import Derived.Test.YtgcpjjifiebijaaBox4
import Derived.Test.YtgcpjjifiebijaaBox3
/- Plain lemmas: the part of Base that no list is wanted for. -/
namespace Go.Proofs.Ytgcpjjifiebijaa.Pure
open Go.RowKit Go.Proofs.Ytgcpjjifiebijaa.Bo Go.Proofs.YtgcpjjifiebijaaW.PrintWords Go.Proofs.YtgcpjjifiebijaaW.PrintLast

theorem Ev.eq {α : Type} {g f : Nat → Option α} {r : α} (h : ∀ k, g (k + 1) = f k) (k : Ev f r) : Ev g r := Ev.step h k
theorem Ev.pure' {α : Type} {g : Nat → Option α} {r : α} (h : ∀ k, g k = some r) : Ev g r := ⟨0, fun k _ => h k⟩
theorem Ev.one {α : Type} {g : Nat → Option α} {r : α} (h : ∀ k, g (k + 1) = some r) : Ev g r := Ev.step (f := fun _ => some r) h (Ev.now r)
theorem Ev.some_bind {α β : Type} {f : Nat → α → Option β} {a : α} {r : β} (h : Ev (fun n => f n a) r) : Ev (fun n => (some a).bind (f n)) r := h
theorem Ev.if_pos' {α : Type} {c : Prop} [Decidable c] {g f : Nat → Option α} {r : α} (hc : c) (h : Ev g r) : Ev (fun n => if c then g n else f n) r := by
  simpa only [if_pos hc] using h
theorem Ev.if_neg' {α : Type} {c : Prop} [Decidable c] {g f : Nat → Option α} {r : α} (hc : ¬ c) (h : Ev f r) : Ev (fun n => if c then g n else f n) r := by
  simpa only [if_neg hc] using h
theorem Ev.const_bind {α β : Type} {g : Option α} {f : Nat → α → Option β} {a : α} {r : β} (h : g = some a) (k : Ev (fun n => f n a) r) : Ev (fun n => g.bind (f n)) r := by
  simpa only [h, Option.bind_some] using k
/-- More rounds may be taken. -/
theorem Ev.le {α : Type} {g f : Nat → Option α} {r : α} (h : Ev g r) (hle : ∀ k, LeO (g k) (f k)) : Ev f r := by
  obtain ⟨K, hK⟩ := h
  exact ⟨K, fun k hk => hle k _ (hK k hk)⟩

theorem w64 {x : Int} (h0 : -9223372036854775808 ≤ x) (h1 : x ≤ 9223372036854775807) : wrap64 x = x := by unfold wrap64; omega
theorem rd_eq (l : List Int) (i : Nat) (h : i < l.length) : rd l (i : Int) = l[i] := by simp [rd, h]
theorem rd_nat (l : List Int) (i : Nat) : rd l (i : Int) = l.getD i 0 := rfl

theorem l1In_eq (a b c : Int) : spec_l1In.f a b c = some (decide (b ≤ a ∧ a ≤ c)) := by
  unfold spec_l1In.f
  by_cases h : a ≥ b <;> simp [h, ge_iff_le] <;> omega

end Go.Proofs.Ytgcpjjifiebijaa.Pure

/- Plain lemma: the program's test of a number between bounds. -/
namespace Go.Proofs.Ytgcpjjifiebijaa.Pure
open Go.RowKit Go.Proofs.Ytgcpjjifiebijaa.Bo Go.Proofs.YtgcpjjifiebijaaW.PrintWords Go.Proofs.YtgcpjjifiebijaaW.PrintLast

theorem within_eq (a b c : Int) : impl_within.f a b c = some (decide (b ≤ a ∧ a ≤ c)) := by
  unfold impl_within.f
  by_cases h : b ≤ a <;> simp [h]


end Go.Proofs.Ytgcpjjifiebijaa.Pure

/- Plain lemmas: the balanced text of a number: the reference's and the program's loops write the same digits, and the digits of -x are those of x with the signs changed. -/
namespace Go.Proofs.Ytgcpjjifiebijaa.Pure
open Go.RowKit Go.Proofs.Ytgcpjjifiebijaa.Bo Go.Proofs.YtgcpjjifiebijaaW.PrintWords Go.Proofs.YtgcpjjifiebijaaW.PrintLast

def dig (m : Int) : UInt8 := if m = 0 then 48 else if m = 1 then 43 else 45
def digs : Nat → Int → List UInt8
  | 0, _ => []
  | d + 1, x => if x = 0 then [] else digs d ((x + 1) / 3) ++ [dig (x % 3)]
theorem digs_len (d : Nat) : ∀ x, (digs d x).length ≤ d := by
  induction d with
  | zero => intro x; simp [digs]
  | succ d ih =>
    intro x
    rw [digs]
    split
    · simp
    · rw [List.length_append]; have := ih ((x + 1) / 3); simp; omega
theorem digs_neg (d : Nat) : ∀ x, digs d (-x) = (digs d x).map impl_negated.one := by
  induction d with
  | zero => intro x; simp [digs]
  | succ d ih =>
    intro x
    rw [digs, digs]
    by_cases h : x = 0
    · rw [if_pos (by omega), if_pos h]; rfl
    · rw [if_neg (by omega), if_neg h, List.map_append]
      have e : (-x + 1) / 3 = -((x + 1) / 3) := by omega
      rw [e, ih]
      congr 1
      rcases (show x % 3 = 0 ∨ x % 3 = 1 ∨ x % 3 = 2 by omega) with h3 | h3 | h3
      · rw [h3, show (-x) % 3 = 0 by omega]; rfl
      · rw [h3, show (-x) % 3 = 2 by omega]; rfl
      · rw [h3, show (-x) % 3 = 1 by omega]; rfl
theorem digs_ne (d : Nat) (x : Int) (h : x ≠ 0) (hd : x.natAbs ≤ d) : digs d x ≠ [] := by
  cases d with
  | zero => omega
  | succ d => rw [digs, if_neg h]; simp
theorem td3 (x : Int) : Int.tdiv x 3 = if 0 ≤ x then x / 3 else -((-x) / 3) := by
  split
  · rename_i h; exact Int.tdiv_eq_ediv_of_nonneg h
  · rename_i h
    have := Int.neg_tdiv (a := -x) (b := 3)
    rw [Int.neg_neg] at this
    rw [this, Int.tdiv_eq_ediv_of_nonneg (by omega)]
theorem tm3 (x : Int) : Int.tmod x 3 = if 0 ≤ x then x % 3 else -((-x) % 3) := by
  split
  · rename_i h; exact Int.tmod_eq_emod_of_nonneg h
  · rename_i h
    have := Int.neg_tmod (a := -x) (b := 3)
    rw [Int.neg_neg] at this
    rw [this, Int.tmod_eq_emod_of_nonneg (by omega)]
theorem l1Mod3 (x : Int) (_h0 : -9223372036854775000 ≤ x) (_h1 : x ≤ 9223372036854775000) : spec_l1Mod.f x 3 = some (x % 3) := by
  unfold spec_l1Mod.f
  have h3 := tm3 x
  rw [if_neg (by omega), w64 (by omega) (by omega)]
  congr 1
  have h4 := tm3 (Int.tmod x 3 + 3)
  omega
theorem app_one (u : UInt8) (l : List UInt8) : (⟨#[u]⟩ : ByteArray) ++ (⟨l.toArray⟩ : ByteArray) = ⟨(u :: l).toArray⟩ := by
  apply ByteArray.ext
  rw [ByteArray.data_append]
  simp
theorem tl_loop (b : ByteArray) (d : Nat) : ∀ (i : Nat) (r : List UInt8), b.size - i = d → ByteArray.toList.loop b i r = r.reverse ++ b.data.toList.drop i := by
  induction d with
  | zero =>
    intro i r h
    rw [ByteArray.toList.loop, if_neg (by omega), List.drop_of_length_le (by rw [Array.length_toList]; show b.size ≤ i; omega), List.append_nil]
  | succ d ih =>
    intro i r h
    have hi : i < b.data.size := by show i < b.size; omega
    rw [ByteArray.toList.loop, if_pos (by omega), ih (i + 1) _ (by omega), List.reverse_cons, List.append_assoc, List.singleton_append, List.drop_eq_getElem_cons (i := i) (by rw [Array.length_toList]; exact hi)]
    congr 2
    show b.data[i]! = _
    rw [getElem!_pos b.data i hi, Array.getElem_toList]
theorem tl_data (b : ByteArray) : b.toList = b.data.toList := by
  unfold ByteArray.toList
  rw [tl_loop b b.size 0 [] (by omega)]
  rfl
theorem size_arr (l : List UInt8) : (⟨l.toArray⟩ : ByteArray).size = l.length := by
  show l.toArray.size = _
  simp
theorem siBalanced_loop (d : Nat) : ∀ (x : Int) (acc : List UInt8), x.natAbs ≤ d → d + acc.length ≤ 9000000000000 →
    Ev (fun k => spec_siBalanced.l0 k x (⟨acc.toArray⟩ : ByteArray)) ⟨(digs d x ++ acc).toArray⟩ := by
  induction d with
  | zero =>
    intro x acc hx hl
    exact Ev.one fun k => by rw [spec_siBalanced.l0, if_pos (by omega)]; rfl
  | succ d ih =>
    intro x acc hx hl
    rw [digs]
    by_cases h : x = 0
    · rw [if_pos h]
      exact Ev.one fun k => by rw [spec_siBalanced.l0, if_pos h]; rfl
    · rw [if_neg h]
      have go := ih ((x + 1) / 3) (dig (x % 3) :: acc) (by omega) (by rw [List.length_cons]; omega)
      rw [List.append_assoc, List.singleton_append]
      refine Ev.step (fun k => ?_) go
      rw [spec_siBalanced.l0, if_neg h, l1Mod3 x (by omega) (by omega), Option.bind_some]
      have hs : 1 + (⟨acc.toArray⟩ : ByteArray).size ≤ 9223372036854775807 := by rw [size_arr]; omega
      have t0 := td3 x
      have t1 := td3 (x - 1)
      have t2 := td3 (x + 1)
      rcases (show x % 3 = 0 ∨ x % 3 = 1 ∨ x % 3 = 2 by omega) with h3 | h3 | h3
      · rw [if_pos h3, if_pos hs, app_one, h3, w64 (by omega) (by omega)]
        have e : Int.tdiv x 3 = (x + 1) / 3 := by omega
        rw [e]; rfl
      · rw [if_neg (by omega), if_pos h3, if_pos hs, app_one, h3, w64 (x := x - 1) (by omega) (by omega), w64 (by omega) (by omega)]
        have e : Int.tdiv (x - 1) 3 = (x + 1) / 3 := by omega
        rw [e]; rfl
      · rw [if_neg (by omega), if_neg (by omega), if_pos hs, app_one, h3, w64 (x := x + 1) (by omega) (by omega), w64 (by omega) (by omega)]
        have e : Int.tdiv (x + 1) 3 = (x + 1) / 3 := by omega
        rw [e]; rfl
/-- The balanced text of x. -/
def balT (x : Int) : List UInt8 := if x = 0 then [48] else digs x.natAbs x
theorem siBalanced_ev (x : Int) (h : x.natAbs ≤ 9000000000) : Ev (fun k => spec_siBalanced.f k x) ⟨(balT x).toArray⟩ := by
  unfold spec_siBalanced.f balT
  by_cases h0 : x = 0
  · rw [if_pos h0]
    exact Ev.if_pos' h0 (Ev.now _)
  · rw [if_neg h0]
    have := siBalanced_loop x.natAbs x [] (Nat.le_refl _) (by simp; omega)
    rw [List.append_nil] at this
    exact Ev.if_neg' h0 this
theorem cut3 (m : Nat) (h : m < 3) : (⟨#[48, 43, 45]⟩ : ByteArray).extract m (m + 1) = ⟨#[dig (m : Int)]⟩ := by
  rcases (show m = 0 ∨ m = 1 ∨ m = 2 by omega) with rfl | rfl | rfl <;> decide
theorem balanced_loop (d : Nat) : ∀ (x : Int) (acc : List UInt8), 0 ≤ x → x.natAbs ≤ d → d + acc.length ≤ 9000000000000 → (x = 0 → acc ≠ []) →
    Ev (fun k => impl_balanced.l0 k x (⟨acc.toArray⟩ : ByteArray)) ⟨(digs d x ++ acc).toArray⟩ := by
  have stop : ∀ (acc : List UInt8) k, acc ≠ [] → impl_balanced.l0 (k + 1) 0 (⟨acc.toArray⟩ : ByteArray) = some (⟨acc.toArray⟩ : ByteArray) := by
    intro acc k hn
    rw [impl_balanced.l0, if_neg (by omega), if_neg (by rw [tl_data]; simpa using hn)]
  induction d with
  | zero =>
    intro x acc h0 hx hl hn
    obtain rfl : x = 0 := by omega
    exact Ev.one fun k => stop acc k (hn rfl)
  | succ d ih =>
    intro x acc h0 hx hl hn
    rw [digs]
    by_cases h : x = 0
    · rw [if_pos h]
      subst h
      exact Ev.one fun k => stop acc k (hn rfl)
    · rw [if_neg h]
      have go := ih ((x + 1) / 3) (dig (x % 3) :: acc) (by omega) (by omega) (by rw [List.length_cons]; omega) (fun _ => by simp)
      rw [List.append_assoc, List.singleton_append]
      refine Ev.step (fun k => ?_) go
      have hm : Int.tmod x 3 = x % 3 := by have := tm3 x; omega
      have hq : (⟨#[48, 43, 45]⟩ : ByteArray).extract (x % 3).toNat (x % 3 + 1).toNat = ⟨#[dig (x % 3)]⟩ := by
        have := cut3 (x % 3).toNat (by omega)
        rw [Int.toNat_of_nonneg (by omega)] at this
        rw [show (x % 3 + 1).toNat = (x % 3).toNat + 1 by omega, this]
      have hs : (⟨#[dig (x % 3)]⟩ : ByteArray).size + (⟨acc.toArray⟩ : ByteArray).size ≤ 9223372036854775807 := by
        rw [size_arr]; show 1 + acc.length ≤ _; omega
      have e : Int.tdiv (x + 1) 3 = (x + 1) / 3 := by have := td3 (x + 1); omega
      rw [impl_balanced.l0, hm, w64 (x := x % 3 + 1) (by omega) (by omega), hq, w64 (x := x + 1) (by omega) (by omega), e, w64 (by omega) (by omega), app_one,
        if_pos (by omega), if_pos (by omega), if_pos (by omega), if_pos (by omega), if_pos hs]
theorem balanced_pos (x : Int) (h0 : 0 ≤ x) (h : x.natAbs ≤ 9000000000) : Ev (fun k => impl_balanced.l0 k x (⟨#[]⟩ : ByteArray)) ⟨(balT x).toArray⟩ := by
  unfold balT
  by_cases hz : x = 0
  · subst hz
    rw [if_pos rfl]
    exact Ev.one fun k => by rw [impl_balanced.l0, if_neg (by omega), if_pos (by rw [tl_data])]
  · rw [if_neg hz]
    have := balanced_loop x.natAbs x [] h0 (Nat.le_refl _) (by simp; omega) (fun e => absurd e hz)
    rw [List.append_nil] at this
    exact this
theorem negated_eq (l : List UInt8) (h : l.length ≤ 140737488351232) : impl_negated.f (⟨l.toArray⟩ : ByteArray) = some ⟨(l.map impl_negated.one).toArray⟩ := by
  unfold impl_negated.f impl_negated.all
  rw [if_pos (by rw [size_arr]; exact h)]
theorem balT_neg (x : Int) : balT (-x) = (balT x).map impl_negated.one := by
  unfold balT
  by_cases h : x = 0
  · subst h; rfl
  · rw [if_neg (by omega), if_neg h, Int.natAbs_neg, digs_neg]
theorem balT_len (x : Int) : (balT x).length ≤ x.natAbs + 1 := by
  unfold balT
  split
  · simp
  · have := digs_len x.natAbs x; omega
theorem balanced_ev (x : Int) (h : x.natAbs ≤ 9000000000) : Ev (fun k => impl_balanced.f k x) ⟨(balT x).toArray⟩ := by
  have pos : ∀ y : Int, 0 ≤ y → y.natAbs ≤ 9000000000 → Ev (fun k => impl_balanced.f k y) ⟨(balT y).toArray⟩ := fun y h0 hy =>
    Ev.step (fun k => by rw [impl_balanced.f, if_neg (by omega)]) (balanced_pos y h0 hy)
  by_cases h0 : 0 ≤ x
  · exact pos x h0 h
  · refine Ev.step (fun k => by rw [impl_balanced.f, if_pos (by omega), w64 (x := -x) (by omega) (by omega)]) (Ev.bind (pos (-x) (by omega) (by omega)) ?_)
    refine Ev.const_bind (negated_eq _ (by have := balT_len (-x); omega)) ?_
    rw [← balT_neg, Int.neg_neg]
    exact Ev.now _

end Go.Proofs.Ytgcpjjifiebijaa.Pure
