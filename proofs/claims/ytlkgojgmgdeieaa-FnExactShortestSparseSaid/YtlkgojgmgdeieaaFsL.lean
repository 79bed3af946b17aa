/- Plain lemmas of several texts in one: EvBase, EqS0, Mark, Times0, Search0, Search1, Sparse1. -/
import Derived.Test.YtlkgojgmgdeieaaWWords
import Derived.Test.YtlkgojgmgdeieaaWMore
import Derived.Test.YtlkgojgmgdeieaaFsx1
import Derived.Test.YtlkgojgmgdeieaaFsx2
import Derived.Test.YtlkgojgmgdeieaaFsx3
import Derived.Test.YtlkgojgmgdeieaaFsx4
import Derived.Test.YtlkgojgmgdeieaaFsx5
import Derived.Test.YtlkgojgmgdeieaaFsx6
/- Plain lemmas: the part of Base that no list is wanted for. -/
namespace Go.Proofs.Ytlkgojgmgdeieaa.Pure
open Go.RowKit Go.Proofs.Ytlkgojgmgdeieaa.Fs Go.Proofs.YtlkgojgmgdeieaaW.PrintWords Go.Proofs.YtlkgojgmgdeieaaW.PrintLast

theorem Ev.eq {α : Type} {g f : Nat → Option α} {r : α} (h : ∀ k, g (k + 1) = f k) (k : Ev f r) : Ev g r := Ev.step h k
theorem Ev.pure' {α : Type} {g : Nat → Option α} {r : α} (h : ∀ k, g k = some r) : Ev g r := ⟨0, fun k _ => h k⟩
theorem Ev.one {α : Type} {g : Nat → Option α} {r : α} (h : ∀ k, g (k + 1) = some r) : Ev g r := Ev.step (f := fun _ => some r) h (Ev.now r)
theorem Ev.some_bind {α β : Type} {f : Nat → α → Option β} {a : α} {r : β} (h : Ev (fun n => f n a) r) : Ev (fun n => (some a).bind (f n)) r := h
theorem Ev.if_pos' {α : Type} {c : Prop} [Decidable c] {g f : Nat → Option α} {r : α} (hc : c) (h : Ev g r) : Ev (fun n => if c then g n else f n) r := by
  simpa only [if_pos hc] using h
theorem Ev.if_neg' {α : Type} {c : Prop} [Decidable c] {g f : Nat → Option α} {r : α} (hc : ¬ c) (h : Ev f r) : Ev (fun n => if c then g n else f n) r := by
  simpa only [if_neg hc] using h
theorem Ev.const_bind {α β : Type} {g : Option α} {f : Nat → α → Option β} {a : α} {r : β} (h : g = some a) (k : Ev (fun n => f n a) r) : Ev (fun n => g.bind (f n)) r := by
  simpa only [h, Option.bind_some] using k
/-- More rounds may be taken. -/
theorem Ev.le {α : Type} {g f : Nat → Option α} {r : α} (h : Ev g r) (hle : ∀ k, LeO (g k) (f k)) : Ev f r := by
  obtain ⟨K, hK⟩ := h
  exact ⟨K, fun k hk => hle k _ (hK k hk)⟩

theorem w64 {x : Int} (h0 : -9223372036854775808 ≤ x) (h1 : x ≤ 9223372036854775807) : wrap64 x = x := by unfold wrap64; omega
theorem rd_eq (l : List Int) (i : Nat) (h : i < l.length) : rd l (i : Int) = l[i] := by simp [rd, h]
theorem rd_nat (l : List Int) (i : Nat) : rd l (i : Int) = l.getD i 0 := rfl

theorem l1In_eq (a b c : Int) : spec_l1In.f a b c = some (decide (b ≤ a ∧ a ≤ c)) := by
  unfold spec_l1In.f
  by_cases h : a ≥ b <;> simp [h, ge_iff_le] <;> omega

end Go.Proofs.Ytlkgojgmgdeieaa.Pure

/- Plain lemmas: two lists compared. -/
namespace Go.Proofs.Ytlkgojgmgdeieaa.Pure
open Go.RowKit Go.Proofs.Ytlkgojgmgdeieaa.Fs Go.Proofs.YtlkgojgmgdeieaaW.PrintWords Go.Proofs.YtlkgojgmgdeieaaW.PrintLast

theorem eqIntS_loop (a b : List Int) (hab : a.length = b.length) (hl : a.length ≤ 35184372088832) (d : Nat) : ∀ (i : Nat), a.length - i = d → i ≤ a.length →
    Ev (fun k => laws_eqIntS.l0 k a b (i : Int)) (decide (a.drop i = b.drop i)) := by
  induction d with
  | zero =>
    intro i hd hi
    refine Ev.one fun k => ?_
    rw [laws_eqIntS.l0, if_neg (by omega), List.drop_of_length_le (by omega), List.drop_of_length_le (by omega)]
    simp
  | succ d ih =>
    intro i hd hi
    have hi' : i < a.length := by omega
    have h := ih (i + 1) (by omega) (by omega)
    have hib : i < b.length := by omega
    rw [List.drop_eq_getElem_cons hi', List.drop_eq_getElem_cons hib]
    by_cases he : a[i] = b[i]
    · refine Ev.step (f := fun k => laws_eqIntS.l0 k a b ((i + 1 : Nat) : Int)) (fun k => ?_) (by simp only [he, List.cons.injEq, true_and]; exact h)
      rw [laws_eqIntS.l0, if_pos (by omega), if_pos (by omega), if_pos (by omega), if_pos (by rw [rd_eq a i hi', rd_eq b i hib, he]), w64 (by omega) (by omega)]
      rfl
    · refine Ev.one fun k => ?_
      rw [laws_eqIntS.l0, if_pos (by omega), if_pos (by omega), if_pos (by omega), if_neg (by rw [rd_eq a i hi', rd_eq b i hib]; exact he)]
      rw [decide_eq_false (fun e => he (List.cons.inj e).1)]
theorem eqIntS_ev (a b : List Int) (hl : a.length ≤ 35184372088832) : Ev (fun k => laws_eqIntS.f k a b) (decide (a = b)) := by
  unfold laws_eqIntS.f
  by_cases h : a.length = b.length
  · refine Ev.if_pos' (by omega) ?_
    simpa using eqIntS_loop a b h hl a.length 0 (by omega) (by omega)
  · refine Ev.if_neg' (by omega) ?_
    rw [decide_eq_false (fun e => h (by rw [e]))]
    exact Ev.now _
theorem eqIntS_self (a : List Int) (hl : a.length ≤ 35184372088832) : Ev (fun k => laws_eqIntS.f k a a) true := by
  simpa using eqIntS_ev a a hl

end Go.Proofs.Ytlkgojgmgdeieaa.Pure

/- Plain lemmas: a list that is marked with 1, 2, .. holds just these marks. -/
namespace Go.Proofs.Ytlkgojgmgdeieaa.Pure
open Go.RowKit Go.Proofs.Ytlkgojgmgdeieaa.Fs Go.Proofs.YtlkgojgmgdeieaaW.PrintWords Go.Proofs.YtlkgojgmgdeieaaW.PrintLast

/-- s, s + 1, .., n numbers. -/
def upfrom (s : Int) : Nat → List Int
  | 0 => []
  | n + 1 => s :: upfrom (s + 1) n
theorem upfrom_length (n : Nat) : ∀ s, (upfrom s n).length = n := by
  induction n with
  | zero => intro s; rfl
  | succ n ih => intro s; simp [upfrom, ih]
theorem upfrom_get (n : Nat) : ∀ (s : Int) (i : Nat), i < n → (upfrom s n).getD i 0 = s + i := by
  induction n with
  | zero => intro s i h; omega
  | succ n ih =>
    intro s i h
    cases i with
    | zero => simp [upfrom]
    | succ i =>
      have := ih (s + 1) i (by omega)
      simp only [upfrom, List.getD_cons_succ, this]
      omega
theorem mark_loop (n : Nat) : ∀ (A B : List Int) (s : Int), B.length = n → A.length + n ≤ 35184372088832 → 0 ≤ s → s + n ≤ 70368744177664 →
    Ev (fun k => laws_markIntS.l0 k (A ++ B) s (A.length : Int)) (s + n, A ++ upfrom s n) := by
  induction n with
  | zero =>
    intro A B s hB hn h0 h1
    obtain rfl := List.eq_nil_of_length_eq_zero hB
    refine Ev.one fun k => ?_
    rw [laws_markIntS.l0, if_neg (by simp)]
    simp [upfrom]
  | succ n ih =>
    intro A B s hB hn h0 h1
    cases B with
    | nil => simp at hB
    | cons b B =>
      have h := ih (A ++ [s]) B (s + 1) (by simpa using hB) (by simp; omega) (by omega) (by omega)
      refine Ev.step (f := fun k => laws_markIntS.l0 k ((A ++ [s]) ++ B) (s + 1) ((A ++ [s]).length : Int)) (fun k => ?_) ?_
      · rw [laws_markIntS.l0, if_pos (by simp; omega), if_pos (by omega), w64 (by omega) (by omega), w64 (by omega) (by omega)]
        simp
      · have e : s + 1 + (n : Int) = s + ((n + 1 : Nat) : Int) := by omega
        rw [e] at h
        simpa [upfrom] using h
theorem held_loop (n : Nat) (L : List Int) (d : Nat) : ∀ (i : Nat) (s : Int), n - i = d → i ≤ n → L.length = n → n ≤ 35184372088832 → 0 ≤ s → s + d ≤ 70368744177664 → (∀ j, i ≤ j → j < n → L.getD j 0 = s + ((j - i : Nat) : Int)) →
    Ev (fun k => laws_heldIntS.l0 k L s (i : Int)) (s + d) := by
  induction d with
  | zero =>
    intro i s hd hi hL hn h0 h1 hv
    refine Ev.one fun k => ?_
    rw [laws_heldIntS.l0, if_neg (by omega)]
    simp
  | succ d ih =>
    intro i s hd hi hL hn h0 h1 hv
    have h := ih (i + 1) (s + 1) (by omega) (by omega) hL hn (by omega) (by omega) (fun j hj hj' => by rw [hv j (by omega) hj']; omega)
    have e : s + 1 + (d : Int) = s + ((d + 1 : Nat) : Int) := by omega
    rw [e] at h
    refine Ev.step (fun k => ?_) h
    have hg := hv i (by omega) (by omega)
    rw [laws_heldIntS.l0, if_pos (by omega), if_pos (by omega), rd_nat, hg, if_pos (by omega), w64 (by omega) (by omega), w64 (by omega) (by omega)]
    rfl
theorem mark_ev (l : List Int) (hl : l.length ≤ 35184372088831) : Ev (fun k => laws_markIntS.f k l 1) (1 + (l.length : Int), upfrom 1 l.length) := by
  unfold laws_markIntS.f
  simpa using mark_loop l.length [] l 1 rfl (by simp; omega) (by omega) (by omega)
theorem held_ev (n : Nat) (hn : n ≤ 35184372088831) : Ev (fun k => laws_heldIntS.f k (upfrom 1 n) 1) (1 + (n : Int)) := by
  unfold laws_heldIntS.f
  exact held_loop n (upfrom 1 n) n 0 1 (by omega) (by omega) (upfrom_length n 1) (by omega) (by omega) (by omega) (fun j _ hj => by rw [upfrom_get n 1 j hj]; simp)

end Go.Proofs.Ytlkgojgmgdeieaa.Pure

/- Plain lemmas: how often marks that rise measure each length, by the reference; whether none is measured twice, whether one is missing. -/
namespace Go.Proofs.Ytlkgojgmgdeieaa.Pure
open Go.RowKit Go.Proofs.Ytlkgojgmgdeieaa.Fs Go.Proofs.YtlkgojgmgdeieaaW.PrintWords Go.Proofs.YtlkgojgmgdeieaaW.PrintLast

/-- Whole numbers that rise from a to b are b - a + 1 at most. -/
theorem rises_count : ∀ (l : List Int) (lo hi : Int), l.Pairwise (· < ·) → (∀ x ∈ l, lo ≤ x ∧ x ≤ hi) → l = [] ∨ (l.length : Int) ≤ hi - lo + 1
  | [], _, _, _, _ => .inl rfl
  | a :: t, lo, hi, hp, hm => by
    right
    have ha := hm a (by simp)
    rcases rises_count t (a + 1) hi (List.pairwise_cons.1 hp).2 (fun x hx => ⟨by have := (List.pairwise_cons.1 hp).1 x hx; omega, (hm x (by simp [hx])).2⟩) with rfl | h
    · simp; omega
    · simp only [List.length_cons]; omega
def lastOf (l : List Int) : Int := l.getD (l.length - 1) 0
def bump (T : List Int) (d : Int) : List Int := T.set d.toNat (wrap64 (rd T d + 1))
def tbl (T ds : List Int) : List Int := ds.foldl bump T
theorem bump_length (T : List Int) (d : Int) : (bump T d).length = T.length := by simp [bump]
theorem tbl_length (ds : List Int) : ∀ T, (tbl T ds).length = T.length := by
  induction ds with
  | nil => intro T; rfl
  | cons d t ih => intro T; show (tbl (bump T d) t).length = _; rw [ih, bump_length]
theorem bump_rd (T : List Int) (d n : Int) (hd : 0 ≤ d ∧ d < T.length) (hn : 0 ≤ n ∧ n < T.length) (hT : -1 ≤ rd T n ∧ rd T n ≤ 1000000) : rd (bump T d) n = rd T n + (if d = n then 1 else 0) := by
  show (T.set d.toNat (wrap64 (rd T d + 1))).getD n.toNat 0 = _
  have hnl : n.toNat < T.length := by omega
  rw [List.getD_eq_getElem?_getD, List.getElem?_set]
  by_cases h : d = n
  · subst h
    rw [if_pos rfl, if_pos hnl, if_pos rfl, w64 (by omega) (by omega)]; rfl
  · rw [if_neg (by omega), if_neg h, Int.add_zero]; rfl
theorem tbl_rd (n : Int) (ds : List Int) : ∀ (T : List Int), (∀ d ∈ ds, 0 ≤ d ∧ d < T.length) → 0 ≤ n ∧ n < T.length → 0 ≤ rd T n → rd T n + ds.length ≤ 1000000 → rd (tbl T ds) n = rd T n + (ds.count n : Int) := by
  induction ds with
  | nil => intro T _ _ _ _; simp [tbl]
  | cons d t ih =>
    intro T hd hn h0 hT
    simp only [List.length_cons] at hT
    have hb := bump_rd T d n (hd d (by simp)) hn ⟨by omega, by omega⟩
    have h1 : 0 ≤ rd (bump T d) n ∧ rd (bump T d) n ≤ rd T n + 1 := by rw [hb]; split <;> omega
    have := ih (bump T d) (fun x hx => by rw [bump_length]; exact hd x (by simp [hx])) (by rw [bump_length]; exact hn) h1.1 (by omega)
    show rd (tbl (bump T d) t) n = _
    rw [this, hb, List.count_cons]
    by_cases h : d = n
    · subst h; simp; omega
    · have : (d == n) = false := by simpa using h
      rw [this]; simp [h]
theorem rd_zeros (m : Nat) (n : Int) : rd (List.replicate m 0) n = 0 := by
  show (List.replicate m (0 : Int)).getD n.toNat 0 = 0
  rw [List.getD_eq_getElem?_getD, List.getElem?_replicate]
  split <;> rfl
/-- The differences of a list's pairs, each pair's later one less its earlier one. -/
def sp : List Int → List Int
  | [] => []
  | a :: t => t.map (fun b => wrap64 (b - a)) ++ sp t
theorem sp_snoc (d a : Int) : ∀ l : List Int, (sp (l ++ [a])).count d = (sp l).count d + (l.map (fun b => wrap64 (a - b))).count d
  | [] => by simp [sp]
  | b :: t => by
    have ih := sp_snoc d a t
    simp only [List.cons_append, sp, List.map_append, List.map_cons, List.map_nil, List.count_append, List.count_cons, List.count_nil, ih]
    omega
structure Good (l : List Int) : Prop where
  pos : 1 ≤ l.length
  up : l.Pairwise (· < ·)
  mem : ∀ x ∈ l, 0 ≤ x ∧ x ≤ 60
theorem Good.len {l : List Int} (h : Good l) : l.length ≤ 61 := by
  rcases rises_count l 0 60 h.up h.mem with rfl | h
  · simp
  · omega
theorem Good.last {l : List Int} (h : Good l) : 0 ≤ lastOf l ∧ lastOf l ≤ 60 := by
  have := h.pos
  unfold lastOf
  rw [← rd_nat, rd_eq l _ (by omega)]
  exact h.mem _ (List.getElem_mem _)
theorem Good.le_last {l : List Int} (h : Good l) : ∀ x ∈ l, x ≤ lastOf l := by
  intro x hx
  obtain ⟨i, hi, rfl⟩ := List.mem_iff_getElem.1 hx
  have hp := h.pos
  unfold lastOf
  rw [← rd_nat, rd_eq l _ (by omega)]
  by_cases e : i = l.length - 1
  · subst e; exact Int.le_refl _
  · exact Int.le_of_lt (List.pairwise_iff_getElem.1 h.up i (l.length - 1) hi (by omega) (by omega))
theorem sp_range (hi : Int) (hh : hi ≤ 60) : ∀ l : List Int, l.Pairwise (· < ·) → (∀ x ∈ l, 0 ≤ x ∧ x ≤ hi) → ∀ d ∈ sp l, 0 ≤ d ∧ d ≤ hi
  | [], _, _, d, hd => by simp [sp] at hd
  | a :: t, hp, hm, d, hd => by
    rw [sp, List.mem_append] at hd
    rcases hd with hd | hd
    · obtain ⟨b, hb, rfl⟩ := List.mem_map.1 hd
      have h1 := (List.pairwise_cons.1 hp).1 b hb
      have h2 := hm b (by simp [hb])
      have h3 := hm a (by simp)
      rw [w64 (by omega) (by omega)]
      omega
    · exact sp_range hi hh t (List.pairwise_cons.1 hp).2 (fun x hx => hm x (by simp [hx])) d hd
theorem sp_len : ∀ l : List Int, (sp l).length ≤ l.length * l.length
  | [] => by simp [sp]
  | a :: t => by
    have := sp_len t
    simp only [sp, List.length_append, List.length_map, List.length_cons]
    rw [Nat.mul_add, Nat.add_mul]; omega
theorem Good.sp_len {l : List Int} (h : Good l) : (sp l).length ≤ 3721 := by
  have := Pure.sp_len l
  have hl := h.len
  have : l.length * l.length ≤ 61 * 61 := Nat.mul_le_mul hl hl
  omega
/-- How often a length is measured. -/
def times (l : List Int) (n : Int) : Int := ((sp l).count n : Int)
theorem ruTimes_inner (l : List Int) (a : Int) (L : List Int) (i : Nat) (r : List Int) (d : Nat) : ∀ (j : Nat) (T : List Int), L.length - j = d → j ≤ L.length → L.length ≤ 1000000 → (∀ b ∈ L.drop j, 0 ≤ wrap64 (b - a) ∧ wrap64 (b - a) < T.length) →
    Ev (fun k => spec_ruTimes.l0 k l (tbl T ((L.drop j).map (fun b => wrap64 (b - a)))) l (l.length : Int) (wrap64 ((i : Int) + 1))) r →
    Ev (fun k => spec_ruTimes.l1 k l T a l (l.length : Int) (i : Int) L (L.length : Int) (j : Int)) r := by
  induction d with
  | zero =>
    intro j T hd hj hL _ h
    rw [List.drop_of_length_le (by omega)] at h
    refine Ev.step (fun k => ?_) h
    rw [spec_ruTimes.l1, if_neg (by omega)]; rfl
  | succ d ih =>
    intro j T hd hj hL hr h
    have hjl : j < L.length := by omega
    rw [List.drop_eq_getElem_cons hjl] at h hr
    have h0 := hr L[j] List.mem_cons_self
    have ih' := ih (j + 1) (bump T (wrap64 (L[j] - a))) (by omega) (by omega) hL (fun b hb => by rw [bump_length]; exact hr b (List.mem_cons_of_mem _ hb)) h
    refine Ev.step (fun k => ?_) ih'
    rw [spec_ruTimes.l1, if_pos (by omega), if_pos (by omega), if_pos (by omega), rd_eq L j hjl, if_pos h0.1, if_pos h0.2, w64 (x := (j : Int) + 1) (by omega) (by omega)]
    rfl
theorem tbl_append (T a b : List Int) : tbl T (a ++ b) = tbl (tbl T a) b := by simp [tbl]
theorem ruTimes_outer (l : List Int) (h : Good l) (d : Nat) : ∀ (i : Nat) (T : List Int), l.length - i = d → i ≤ l.length → (T.length : Int) = lastOf l + 1 →
    Ev (fun k => spec_ruTimes.l0 k l T l (l.length : Int) (i : Int)) (tbl T (sp (l.drop i))) := by
  have hlen := h.len
  induction d with
  | zero =>
    intro i T hd hi hT
    rw [List.drop_of_length_le (by omega)]
    exact Ev.one fun k => by rw [spec_ruTimes.l0, if_neg (by omega)]; rfl
  | succ d ih =>
    intro i T hd hi hT
    have hil : i < l.length := by omega
    have ih' := ih (i + 1) (tbl T ((l.drop (i + 1)).map (fun b => wrap64 (b - l[i])))) (by omega) (by omega) (by rw [tbl_length]; exact hT)
    have e1 : wrap64 ((i : Int) + 1) = ((i + 1 : Nat) : Int) := by rw [w64 (by omega) (by omega)]; rfl
    rw [List.drop_eq_getElem_cons hil, sp, tbl_append]
    refine Ev.step (f := fun k => spec_ruTimes.l1 k l T l[i] l (l.length : Int) (i : Int) (l.drop (i + 1)) ((l.drop (i + 1)).length : Int) ((0 : Nat) : Int)) (fun k => ?_) ?_
    · rw [spec_ruTimes.l0, if_pos (by omega), if_pos (by omega), if_pos (by omega), e1, if_pos (by omega), if_pos (by omega), rd_eq l i hil, Int.toNat_natCast]; rfl
    · refine ruTimes_inner l l[i] (l.drop (i + 1)) i _ _ 0 T rfl (Nat.zero_le _) (by rw [List.length_drop]; omega) (fun b hb => ?_) ?_
      · rw [List.drop_zero] at hb
        obtain ⟨q, hq, rfl⟩ := List.mem_iff_getElem.1 hb
        rw [List.length_drop] at hq
        rw [List.getElem_drop]
        have h1 := List.pairwise_iff_getElem.1 h.up i (i + 1 + q) hil (by omega) (by omega)
        have h2 := h.mem l[i] (List.getElem_mem _)
        have h3 := h.le_last l[i + 1 + q] (List.getElem_mem _)
        have h4 := h.last
        rw [w64 (by omega) (by omega)]
        omega
      · rw [List.drop_zero, e1]; exact ih'
theorem ruTimes_ev (l : List Int) (h : Good l) : ∃ T : List Int, Ev (fun k => spec_ruTimes.f k l) T ∧ (T.length : Int) = lastOf l + 1 ∧ ∀ n : Int, 0 ≤ n → n ≤ lastOf l → rd T n = times l n := by
  have hp := h.pos
  have hl := h.len
  have hla := h.last
  have e1 : wrap64 ((l.length : Int) - 1) = ((l.length - 1 : Nat) : Int) := by rw [w64 (by omega) (by omega)]; omega
  have e2 : rd l ((l.length - 1 : Nat) : Int) = lastOf l := rfl
  refine ⟨tbl (List.replicate (lastOf l + 1).toNat 0) (sp (l.drop 0)), ?_, ?_, ?_⟩
  · unfold spec_ruTimes.f
    rw [e1, e2, w64 (by omega) (by omega)]
    refine Ev.if_pos' (by omega) (Ev.if_pos' (by omega) (Ev.if_pos' (by omega) (Ev.if_pos' (by omega) ?_)))
    exact ruTimes_outer l h l.length 0 _ (by omega) (by omega) (by rw [List.length_replicate]; omega)
  · rw [tbl_length, List.length_replicate]; omega
  · intro n h0 h1
    have hz : rd (List.replicate (lastOf l + 1).toNat 0) n = 0 := rd_zeros _ n
    have hs := h.sp_len
    rw [List.drop_zero, tbl_rd n (sp l) _ (fun d hd => ?_) ⟨h0, by rw [List.length_replicate]; omega⟩ (by rw [hz]; exact Int.le_refl _) (by rw [hz]; omega), hz, Int.zero_add]
    · rfl
    · rw [List.length_replicate]
      have := sp_range (lastOf l) hla.2 l h.up (fun x hx => ⟨(h.mem x hx).1, h.le_last x hx⟩) d hd
      omega
/-- The lengths up to k for which a number is above 0, or is not. -/
def pickF (f : Int → Int) (m : Bool) (k : Nat) : List Int := ((List.range k).map (fun (j : Nat) => (j : Int) + 1)).filter (fun n => decide (0 < f n) == m)
theorem pickF_succ (f : Int → Int) (m : Bool) (k : Nat) : pickF f m (k + 1) = pickF f m k ++ (if (decide (0 < f ((k : Int) + 1)) == m) = true then [(k : Int) + 1] else []) := by
  unfold pickF
  rw [List.range_succ, List.map_append, List.filter_append]
  simp only [List.map_cons, List.map_nil, List.filter_cons, List.filter_nil]
theorem pickF_length (f : Int → Int) (m : Bool) (k : Nat) : (pickF f m k).length ≤ k := by
  unfold pickF
  exact Nat.le_trans (List.length_filter_le _ _) (by simp)
theorem pickF_congr (f g : Int → Int) (m : Bool) (k : Nat) (h : ∀ n : Int, 0 < n → n ≤ k → f n = g n) : pickF f m k = pickF g m k := by
  induction k with
  | zero => rfl
  | succ k ih =>
    rw [pickF_succ, pickF_succ, h ((k : Int) + 1) (by omega) (by omega), ih (fun n h1 h2 => h n h1 (by omega))]
/-- The lengths that are measured, or not. -/
def with_ (l : List Int) (m : Bool) : List Int := pickF (times l) m (lastOf l).toNat
theorem ruWith_loop (T : List Int) (m : Bool) (hT : T.length ≤ 61) (d : Nat) : ∀ i : Nat, T.length - (i + 1) = d → i + 1 ≤ T.length →
    Ev (fun k => spec_ruWith.l0 k m (pickF (rd T) m i) T (T.length : Int) ((i + 1 : Nat) : Int)) (pickF (rd T) m (T.length - 1)) := by
  induction d with
  | zero =>
    intro i hd hi
    refine Ev.one fun k => ?_
    rw [spec_ruWith.l0, if_neg (by omega), show i = T.length - 1 by omega]
  | succ d ih =>
    intro i hd hi
    have hil : i + 1 < T.length := by omega
    have h := ih (i + 1) (by omega) (by omega)
    have hpl : (pickF (rd T) m i).length ≤ i := pickF_length (rd T) m i
    refine Ev.step (fun k => ?_) h
    have e1 : wrap64 (((i + 1 : Nat) : Int) + 1) = ((i + 1 + 1 : Nat) : Int) := by rw [w64 (by omega) (by omega)]; rfl
    have hps : pickF (rd T) m (i + 1) = pickF (rd T) m i ++ (if (decide (0 < rd T ((i : Int) + 1)) == m) = true then [(i : Int) + 1] else []) := pickF_succ (rd T) m i
    rw [spec_ruWith.l0, if_pos (by omega), if_pos (by omega), if_pos (by omega), if_pos (by omega), e1, hps]
    by_cases hc : (decide (0 < rd T ((i : Int) + 1)) == m) = true
    · rw [if_pos (by simpa using hc), if_pos (by omega), if_pos hc]
      rfl
    · rw [if_neg (by simpa using hc), if_neg hc, List.append_nil]
theorem ruWith_ev (l : List Int) (h : Good l) (m : Bool) : Ev (fun k => spec_ruWith.f k l m) (with_ l m) := by
  obtain ⟨T, hT, hlen, htm⟩ := ruTimes_ev l h
  have hla := h.last
  unfold spec_ruWith.f
  refine Ev.bind hT ?_
  have e : with_ l m = pickF (rd T) m (T.length - 1) := by
    unfold with_
    rw [show T.length - 1 = (lastOf l).toNat by omega]
    exact pickF_congr _ _ m _ fun n h1 h2 => (htm n (by omega) (by omega)).symm
  rw [e]
  refine Ev.step (fun k => ?_) (ruWith_loop T m (by omega) (T.length - 1) 0 (by omega) (by omega))
  rw [spec_ruWith.l0, if_pos (by omega), if_pos (by omega), if_pos (by omega), if_neg (by omega), w64 (by omega) (by omega)]
  rfl
theorem times_zero (l : List Int) (h : Good l) (n : Int) (h1 : lastOf l < n) : times l n = 0 := by
  unfold times
  have hla := h.last
  have : (sp l).count n = 0 := by
    rw [List.count_eq_zero]
    intro hm
    have := sp_range (lastOf l) hla.2 l h.up (fun x hx => ⟨(h.mem x hx).1, h.le_last x hx⟩) n hm
    omega
  rw [this]; rfl
/-- All values of a table, by their places. -/
theorem all_rd (b : Int) (T : List Int) : (∀ x ∈ T, x ≤ b) ↔ ∀ n : Int, 0 ≤ n → n < T.length → rd T n ≤ b := by
  constructor
  · intro h n h0 h1
    obtain ⟨i, rfl⟩ : ∃ i : Nat, n = i := ⟨n.toNat, by omega⟩
    rw [rd_eq T i (by omega)]
    exact h _ (List.getElem_mem _)
  · intro h x hx
    obtain ⟨i, hi, rfl⟩ := List.mem_iff_getElem.1 hx
    rw [← rd_eq T i hi]
    exact h i (by omega) (by omega)
theorem ruSparse_loop (T : List Int) (hT : T.length ≤ 61) (d : Nat) : ∀ i : Nat, T.length - i = d → i ≤ T.length →
    Ev (fun k => spec_ruSparse.l0 k T (T.length : Int) (i : Int)) ((T.drop i).all (fun x => decide (x ≤ 1))) := by
  induction d with
  | zero =>
    intro i hd hi
    rw [List.drop_of_length_le (by omega)]
    exact Ev.one fun k => by rw [spec_ruSparse.l0, if_neg (by omega)]; rfl
  | succ d ih =>
    intro i hd hi
    have hil : i < T.length := by omega
    rw [List.drop_eq_getElem_cons hil, List.all_cons]
    by_cases h : T[i] > 1
    · rw [decide_eq_false (by omega), Bool.false_and]
      exact Ev.one fun k => by rw [spec_ruSparse.l0, if_pos (by omega), if_pos (by omega), if_pos (by omega), if_pos (by rw [rd_eq T i hil]; exact h)]
    · rw [decide_eq_true (by omega), Bool.true_and]
      refine Ev.step (fun k => ?_) (ih (i + 1) (by omega) (by omega))
      rw [spec_ruSparse.l0, if_pos (by omega), if_pos (by omega), if_pos (by omega), if_neg (by rw [rd_eq T i hil]; exact h), w64 (by omega) (by omega)]; rfl
/-- No length is measured twice. -/
def sparseB (l : List Int) : Bool := decide (∀ n ∈ sp l, (sp l).count n ≤ 1)
theorem sparseB_times (l : List Int) : sparseB l = true ↔ ∀ n : Int, times l n ≤ 1 := by
  unfold sparseB times
  rw [decide_eq_true_iff]
  constructor
  · intro h n
    by_cases hn : n ∈ sp l
    · have := h n hn; omega
    · have := List.count_eq_zero.2 hn; omega
  · intro h n _
    have := h n; omega
theorem ruSparse_ev (l : List Int) (h : Good l) : Ev (fun k => spec_ruSparse.f k l) (sparseB l) := by
  obtain ⟨T, hT, hlen, htm⟩ := ruTimes_ev l h
  have hla := h.last
  unfold spec_ruSparse.f
  refine Ev.bind hT ?_
  have e : sparseB l = (T.drop 0).all (fun x => decide (x ≤ 1)) := by
    rw [Bool.eq_iff_iff, sparseB_times, List.all_eq_true, List.drop_zero]
    simp only [decide_eq_true_eq]
    rw [all_rd]
    constructor
    · intro hh n h0 h1
      rw [htm n h0 (by omega)]; exact hh n
    · intro hh n
      by_cases h0 : 0 ≤ n
      · by_cases hn : n ≤ lastOf l
        · have := hh n h0 (by omega)
          rw [htm n h0 hn] at this; exact this
        · rw [times_zero l h n (by omega)]; omega
      · unfold times
        have : (sp l).count n = 0 := by
          rw [List.count_eq_zero]
          intro hm
          have := sp_range 60 (Int.le_refl _) l h.up h.mem n hm
          omega
        rw [this]; omega
  rw [e]
  exact ruSparse_loop T (by omega) T.length 0 (by omega) (by omega)

end Go.Proofs.Ytlkgojgmgdeieaa.Pure

/- Plain lemmas: the reference's search for rulers: it hands back the first of all rulers that there are, and how many these are. -/
namespace Go.Proofs.Ytlkgojgmgdeieaa.Pure
open Go.RowKit Go.Proofs.Ytlkgojgmgdeieaa.Fs Go.Proofs.YtlkgojgmgdeieaaW.PrintWords Go.Proofs.YtlkgojgmgdeieaaW.PrintLast

theorem ownS_eq (l : List Int) (hl : l.length ≤ 1000000) : spec_l1Own.f l = some l := by
  unfold spec_l1Own.f
  simp; omega
theorem lastOf_snoc (l : List Int) (m : Int) : lastOf (l ++ [m]) = m := by
  unfold lastOf
  rw [List.length_append, List.getD_eq_getElem?_getD]
  simp
theorem Good.snoc {l : List Int} (h : Good l) {m : Int} (h1 : lastOf l < m) (h2 : m ≤ 60) : Good (l ++ [m]) := by
  have hl := h.last
  refine ⟨by rw [List.length_append]; simp, ?_, ?_⟩
  · rw [List.pairwise_append]
    refine ⟨h.up, List.pairwise_singleton _ _, fun x hx y hy => ?_⟩
    obtain rfl : y = m := by simpa using hy
    have := h.le_last x hx
    omega
  · intro x hx
    rcases List.mem_append.1 hx with hx | hx
    · exact h.mem x hx
    · obtain rfl : x = m := by simpa using hx
      omega
theorem rd_last (l : List Int) (h : Good l) : wrap64 ((l.length : Int) - 1) = ((l.length - 1 : Nat) : Int) ∧ rd l ((l.length - 1 : Nat) : Int) = lastOf l := by
  have hp := h.pos
  have hl := h.len
  exact ⟨by rw [w64 (by omega) (by omega)]; omega, rfl⟩
/-- Whether a whole ruler is asked for: complete, or sparse. -/
def leafB (c : Bool) (l : List Int) : Bool := if c = true then decide (with_ l false = []) else sparseB l
/-- All rulers whose next mark is one of j marks from m on. -/
def allL (F : List Int → List (List Int)) (c : Bool) (l : List Int) : Nat → Int → List (List Int)
  | 0, _ => []
  | j + 1, m => (if (c || sparseB (l ++ [m])) = true then F (l ++ [m]) else []) ++ allL F c l j (m + 1)
/-- All rulers that begin with some marks, have d marks more, and end at e. -/
def allR (c : Bool) (e : Int) : Nat → List Int → List (List Int)
  | 0, l => if leafB c (l ++ [e]) = true then [l ++ [e]] else []
  | d + 1, l => allL (allR c e d) c l (e - ((d : Int) + 1) - lastOf l).toNat (lastOf l + 1)
theorem allL_len (F : List Int → List (List Int)) (c : Bool) (l : List Int) (P : Nat) (j : Nat) : ∀ m : Int, (∀ i : Int, m ≤ i → i < m + j → (F (l ++ [i])).length ≤ P) → (allL F c l j m).length ≤ j * P := by
  induction j with
  | zero => intro m _; simp [allL]
  | succ j ih =>
    intro m h
    have h1 := h m (by omega) (by omega)
    have h2 := ih (m + 1) (fun i h1 h2 => h i (by omega) (by omega))
    rw [allL, List.length_append, Nat.add_mul]
    split
    · omega
    · simp; omega
theorem allR_len (c : Bool) (e : Int) (he : e ≤ 60) (d : Nat) : ∀ l : List Int, Good l → (allR c e d l).length ≤ 61 ^ d := by
  induction d with
  | zero => intro l _; rw [allR]; split <;> simp
  | succ d ih =>
    intro l h
    have hla := h.last
    rw [allR, Nat.pow_succ, Nat.mul_comm (61 ^ d)]
    have := allL_len (allR c e d) c l (61 ^ d) (e - ((d : Int) + 1) - lastOf l).toNat (lastOf l + 1) (fun i h1 h2 => ih _ (h.snoc (by omega) (by omega)))
    exact Nat.le_trans this (Nat.mul_le_mul_right _ (by omega))
section
variable (c : Bool) (e : Int) (he : e ≤ 60) (d : Nat) (l : List Int) (h : Good l) (hd : d ≤ 60)
include he h hd
theorem search_loop (F : List Int → List (List Int)) (P : Nat) (hF : ∀ m : Int, lastOf l < m → m + (d : Int) < e → (F (l ++ [m])).length ≤ P ∧ Ev (fun k => spec_ruSearch.f k (l ++ [m]) e (d : Int) c) ((F (l ++ [m])).headD [], ((F (l ++ [m])).length : Int))) (j : Nat) :
    ∀ (m : Int) (A : List (List Int)), lastOf l < m → (0 < j → m + j = e - d) → (j = 0 → e < m + (d + 1)) → m ≤ 1000 → A.length + j * P ≤ 9000000000000000000 →
      Ev (fun k => spec_ruSearch.l0 k l e (((d + 1 : Nat)) : Int) c (A.headD []) (A.length : Int) m) ((A ++ allL F c l j m).headD [], ((A ++ allL F c l j m).length : Int)) := by
  have hl := h.len
  have hla := h.last
  have e1 : wrap64 (((d + 1 : Nat) : Int) - 1) = (d : Int) := by rw [w64 (by omega) (by omega)]; omega
  induction j with
  | zero =>
    intro m A h1 _ h3 h4 _
    refine Ev.one fun k => ?_
    rw [spec_ruSearch.l0, w64 (x := m + ((d + 1 : Nat) : Int)) (by omega) (by omega), if_neg (by have := h3 rfl; omega), allL, List.append_nil]
  | succ j ih =>
    intro m A h1 h2 _ h4 h5
    have hm := h2 (by omega)
    have hy : Good (l ++ [m]) := h.snoc h1 (by omega)
    have hFm := hF m h1 (by omega)
    have e2 : wrap64 (m + 1) = m + 1 := w64 (by omega) (by omega)
    rw [Nat.add_mul, Nat.one_mul] at h5
    have tail : Ev (fun k => spec_ruSearch.j1 k l e ((d + 1 : Nat) : Int) c (A.headD []) (A.length : Int) m (l ++ [m]) (!(c || sparseB (l ++ [m])))) ((A ++ allL F c l (j + 1) m).headD [], ((A ++ allL F c l (j + 1) m).length : Int)) := by
      rw [allL]
      cases hq : (c || sparseB (l ++ [m])) with
      | false =>
        rw [if_neg (by simp), List.nil_append]
        refine Ev.step (fun k => ?_) (ih (m + 1) A (by omega) (by omega) (by omega) (by omega) (by omega))
        rw [spec_ruSearch.j1, if_pos (by rfl), e2]
      | true =>
        rw [if_pos rfl, ← List.append_assoc]
        have go := ih (m + 1) (A ++ F (l ++ [m])) (by omega) (by omega) (by omega) (by omega) (by rw [List.length_append]; omega)
        refine Ev.step (f := fun k => (spec_ruSearch.f k (l ++ [m]) e (d : Int) c).bind fun bt149 => (if (A.length : Int) = 0 then (spec_ruSearch.l0 k l e ((d + 1 : Nat) : Int) c bt149.1 (wrap64 ((A.length : Int) + bt149.2)) (wrap64 (m + 1))) else (spec_ruSearch.l0 k l e ((d + 1 : Nat) : Int) c (A.headD []) (wrap64 ((A.length : Int) + bt149.2)) (wrap64 (m + 1))))) (fun k => by rw [spec_ruSearch.j1, if_neg (by simp), e1]) (Ev.bind hFm.2 ?_)
        have e3 : wrap64 ((A.length : Int) + ((F (l ++ [m])).length : Int)) = ((A ++ F (l ++ [m])).length : Int) := by rw [List.length_append, w64 (by omega) (by omega)]; rfl
        simp only [e3, e2]
        cases A with
        | nil => exact Ev.if_pos' rfl (by simpa using go)
        | cons a t => exact Ev.if_neg' (by simp; omega) (by simpa using go)
    cases c with
    | true =>
      refine Ev.step (fun k => ?_) tail
      rw [spec_ruSearch.l0, w64 (x := m + ((d + 1 : Nat) : Int)) (by omega) (by omega), if_pos (by omega), ownS_eq l (by omega), Option.bind_some, if_pos (by omega), Option.bind_some, if_pos rfl]
      rfl
    | false =>
      refine Ev.step (f := fun k => (spec_ruSparse.f k (l ++ [m])).bind fun t148 => spec_ruSearch.j1 k l e ((d + 1 : Nat) : Int) false (A.headD []) (A.length : Int) m (l ++ [m]) (!t148)) (fun k => ?_) (Ev.bind (ruSparse_ev _ hy) ?_)
      · rw [spec_ruSearch.l0, w64 (x := m + ((d + 1 : Nat) : Int)) (by omega) (by omega), if_pos (by omega), ownS_eq l (by omega), Option.bind_some, if_pos (by omega), Option.bind_some, if_neg (by simp)]
      · simpa using tail
end
theorem search_ev (c : Bool) (e : Int) (he : e ≤ 60) (d : Nat) : ∀ l : List Int, Good l → lastOf l < e → d ≤ 9 → Ev (fun k => spec_ruSearch.f k l e (d : Int) c) ((allR c e d l).headD [], ((allR c e d l).length : Int)) := by
  induction d with
  | zero =>
    intro l h hle _
    have hl := h.len
    have hy : Good (l ++ [e]) := h.snoc hle he
    have hwl : (with_ (l ++ [e]) false).length ≤ 1000 := by
      have := pickF_length (times (l ++ [e])) false (lastOf (l ++ [e])).toNat
      have := hy.last
      unfold with_
      omega
    rw [allR]
    cases c with
    | true =>
      refine Ev.step (f := fun k => (spec_ruWith.f k (l ++ [e]) false).bind fun t137 => (if (t137.length : Int) > 0 then (some (([] : List Int), 0)) else (some (l ++ [e], 1)))) (fun k => ?_) (Ev.bind (ruWith_ev _ hy false) ?_)
      · rw [spec_ruSearch.f, if_pos (by rfl), ownS_eq l (by omega), Option.bind_some, if_pos (by omega), Option.bind_some, if_pos rfl]
      · by_cases hw : with_ (l ++ [e]) false = []
        · rw [if_pos (show leafB true (l ++ [e]) = true by unfold leafB; rw [if_pos rfl]; exact decide_eq_true hw)]
          exact Ev.if_neg' (by rw [hw]; simp) (Ev.now _)
        · rw [if_neg (show ¬ leafB true (l ++ [e]) = true by unfold leafB; rw [if_pos rfl, decide_eq_true_eq]; exact hw)]
          exact Ev.if_pos' (by have := List.length_pos_iff.2 hw; omega) (Ev.now _)
    | false =>
      refine Ev.step (f := fun k => (spec_ruSparse.f k (l ++ [e])).bind fun t140 => (if t140 = true then (some (l ++ [e], 1)) else (some (([] : List Int), 0)))) (fun k => ?_) (Ev.bind (ruSparse_ev _ hy) ?_)
      · rw [spec_ruSearch.f, if_pos (by rfl), ownS_eq l (by omega), Option.bind_some, if_pos (by omega), Option.bind_some, if_neg (by simp)]
      · cases hs : sparseB (l ++ [e]) with
        | true =>
          rw [if_pos (show leafB false (l ++ [e]) = true by unfold leafB; rw [if_neg (by simp)]; exact hs)]
          exact Ev.if_pos' rfl (Ev.now _)
        | false =>
          rw [if_neg (show ¬ leafB false (l ++ [e]) = true by unfold leafB; rw [if_neg (by simp), hs]; simp)]
          exact Ev.if_neg' (by simp) (Ev.now _)
  | succ d ih =>
    intro l h hle hd9
    have hl := h.len
    have hla := h.last
    obtain ⟨e1, e2⟩ := rd_last l h
    have hpos := h.pos
    have e3 : wrap64 (lastOf l + 1) = lastOf l + 1 := w64 (by omega) (by omega)
    have hp : 61 ^ d ≤ 61 ^ 8 := Nat.pow_le_pow_right (by omega) (by omega)
    have hP : (61 : Nat) ^ 8 = 191707312997281 := by decide
    have go := search_loop c e he d l h (by omega) (allR c e d) (61 ^ d) (fun m h1 h2 => ⟨allR_len c e he d _ (h.snoc h1 (by omega)), ih _ (h.snoc h1 (by omega)) (by rw [lastOf_snoc]; omega) (by omega)⟩) (e - ((d : Int) + 1) - lastOf l).toNat (lastOf l + 1) [] (by omega) (by omega) (by omega) (by omega)
      (by
        have h1 : (e - ((d : Int) + 1) - lastOf l).toNat * 61 ^ d ≤ 60 * 61 ^ d := Nat.mul_le_mul_right _ (by omega)
        rw [List.length_nil, Nat.zero_add]
        generalize (e - ((d : Int) + 1) - lastOf l).toNat * 61 ^ d = q at h1 ⊢
        omega)
    rw [List.nil_append] at go
    rw [allR]
    refine Ev.step (fun k => ?_) go
    rw [spec_ruSearch.f, if_neg (by omega), e1, if_pos (by omega), if_pos (by omega), e2, e3]
    rfl

end Go.Proofs.Ytlkgojgmgdeieaa.Pure

/- Plain lemmas: which rulers a search finds, and that it finds one. -/
namespace Go.Proofs.Ytlkgojgmgdeieaa.Pure
open Go.RowKit Go.Proofs.Ytlkgojgmgdeieaa.Fs Go.Proofs.YtlkgojgmgdeieaaW.PrintWords Go.Proofs.YtlkgojgmgdeieaaW.PrintLast

theorem allL_mem (F : List Int → List (List Int)) (c : Bool) (l w : List Int) (j : Nat) : ∀ m : Int, w ∈ allL F c l j m → ∃ i : Int, m ≤ i ∧ i < m + j ∧ (c || sparseB (l ++ [i])) = true ∧ w ∈ F (l ++ [i]) := by
  induction j with
  | zero => intro m h; simp [allL] at h
  | succ j ih =>
    intro m h
    rw [allL, List.mem_append] at h
    rcases h with h | h
    · by_cases hq : (c || sparseB (l ++ [m])) = true
      · rw [if_pos hq] at h; exact ⟨m, by omega, by omega, hq, h⟩
      · rw [if_neg hq] at h; cases h
    · obtain ⟨i, h1, h2, h3, h4⟩ := ih (m + 1) h
      exact ⟨i, by omega, by omega, h3, h4⟩
theorem allL_of (F : List Int → List (List Int)) (c : Bool) (l w : List Int) (i : Int) (j : Nat) : ∀ m : Int, m ≤ i → i < m + j → (c || sparseB (l ++ [i])) = true → w ∈ F (l ++ [i]) → w ∈ allL F c l j m := by
  induction j with
  | zero => intro m h1 h2; omega
  | succ j ih =>
    intro m h1 h2 h3 h4
    rw [allL, List.mem_append]
    by_cases hm : m = i
    · subst hm; left; rw [if_pos h3]; exact h4
    · right; exact ih (m + 1) (by omega) (by omega) h3 h4
/-- What a found ruler is. -/
theorem allR_mem (c : Bool) (e : Int) (he : e ≤ 60) (d : Nat) : ∀ (l w : List Int), Good l → lastOf l < e → w ∈ allR c e d l → Good w ∧ w.length = l.length + d + 1 ∧ lastOf w = e ∧ leafB c w = true := by
  induction d with
  | zero =>
    intro l w h hle hw
    rw [allR] at hw
    by_cases hq : leafB c (l ++ [e]) = true
    · rw [if_pos hq] at hw
      obtain rfl : w = l ++ [e] := by simpa using hw
      exact ⟨h.snoc hle he, by simp, lastOf_snoc _ _, hq⟩
    · rw [if_neg hq] at hw; cases hw
  | succ d ih =>
    intro l w h hle hw
    rw [allR] at hw
    obtain ⟨i, h1, h2, _, h4⟩ := allL_mem _ _ _ _ _ _ hw
    obtain ⟨g1, g2, g3, g4⟩ := ih (l ++ [i]) w (h.snoc (by omega) (by omega)) (by rw [lastOf_snoc]; omega) h4
    exact ⟨g1, by rw [g2, List.length_append]; simp; omega, g3, g4⟩
/-- Marks that lead to a ruler. -/
def leads (c : Bool) (e : Int) : List Int → List Int → Bool
  | [], l => leafB c (l ++ [e])
  | m :: t, l => decide (lastOf l < m ∧ m + (t.length + 1) ≤ e) && ((c || sparseB (l ++ [m])) && leads c e t (l ++ [m]))
theorem leads_ne (c : Bool) (e : Int) : ∀ (ms l : List Int), leads c e ms l = true → allR c e ms.length l ≠ []
  | [], l, h => by
    rw [leads] at h
    show allR c e 0 l ≠ []
    rw [allR, if_pos h]
    simp
  | m :: t, l, h => by
    rw [leads, Bool.and_eq_true, Bool.and_eq_true, decide_eq_true_eq] at h
    obtain ⟨⟨h1, h2⟩, h3, h4⟩ := h
    have ih := leads_ne c e t (l ++ [m]) h4
    obtain ⟨w, hw⟩ := List.exists_mem_of_ne_nil _ ih
    have := allL_of (allR c e t.length) c l w m (e - ((t.length : Int) + 1) - lastOf l).toNat (lastOf l + 1) (by omega) (by omega) h3 hw
    rw [List.length_cons, allR]
    exact List.ne_nil_of_mem this
/-- A ruler without a length measured twice has no more pairs than its length. -/
theorem sp_two : ∀ l : List Int, 2 * (sp l).length = l.length * (l.length - 1)
  | [] => rfl
  | a :: t => by
    have ih := sp_two t
    rw [sp, List.length_append, List.length_map, List.length_cons, Nat.mul_add, ih, Nat.add_sub_cancel, Nat.add_mul, Nat.one_mul]
    cases t with
    | nil => rfl
    | cons b u =>
      simp only [List.length_cons, Nat.add_sub_cancel]
      rw [Nat.mul_add (u.length + 1) u.length 1]
      omega
theorem sp_up (hi : Int) (hh : hi ≤ 60) : ∀ l : List Int, l.Pairwise (· < ·) → (∀ x ∈ l, 0 ≤ x ∧ x ≤ hi) → ∀ d ∈ sp l, 1 ≤ d ∧ d ≤ hi
  | [], _, _, d, hd => by simp [sp] at hd
  | a :: t, hp, hm, d, hd => by
    rw [sp, List.mem_append] at hd
    rcases hd with hd | hd
    · obtain ⟨b, hb, rfl⟩ := List.mem_map.1 hd
      have h1 := (List.pairwise_cons.1 hp).1 b hb
      have h2 := hm b (by simp [hb])
      have h3 := hm a (by simp)
      rw [w64 (by omega) (by omega)]
      omega
    · exact sp_up hi hh t (List.pairwise_cons.1 hp).2 (fun x hx => hm x (by simp [hx])) d hd
theorem few_values (E : Nat) : ∀ D : List Int, (∀ d ∈ D, 1 ≤ d ∧ d ≤ E) → (∀ d : Int, D.count d ≤ 1) → D.length ≤ E := by
  induction E with
  | zero =>
    intro D h _
    cases D with
    | nil => simp
    | cons a t => have := h a (by simp); omega
  | succ E ih =>
    intro D h1 h2
    have h3 := List.length_eq_countP_add_countP (fun x : Int => x == ((E + 1 : Nat) : Int)) (l := D)
    have h4 := h2 ((E + 1 : Nat) : Int)
    rw [List.count] at h4
    have h5 := ih (D.filter fun x => !(x == ((E + 1 : Nat) : Int))) (fun d hd => by
      obtain ⟨g1, g2⟩ := List.mem_filter.1 hd
      have := h1 d g1
      have : d ≠ ((E + 1 : Nat) : Int) := by simpa using g2
      omega) (fun d => Nat.le_trans (List.Sublist.count_le _ List.filter_sublist) (h2 d))
    rw [← List.countP_eq_length_filter] at h5
    have h6 : List.countP (fun a => decide ¬(a == ((E + 1 : Nat) : Int)) = true) D = List.countP (fun x => !(x == ((E + 1 : Nat) : Int))) D := by
      congr 1
      funext a
      cases (a == ((E + 1 : Nat) : Int)) <;> rfl
    omega
theorem sparse_long (w : List Int) (h : Good w) (hs : sparseB w = true) : (w.length : Int) * (w.length - 1) ≤ 2 * lastOf w := by
  have hl := h.last
  have hp := h.pos
  have h1 := few_values (lastOf w).toNat (sp w) (fun d hd => by
    have := sp_up (lastOf w) hl.2 w h.up (fun x hx => ⟨(h.mem x hx).1, h.le_last x hx⟩) d hd
    omega) (fun d => by have := (sparseB_times w).1 hs d; unfold times at this; omega)
  have h2 := sp_two w
  obtain ⟨n, hn⟩ : ∃ n, w.length = n + 1 := ⟨w.length - 1, by omega⟩
  rw [hn, Nat.add_sub_cancel] at h2
  have h3 : ((n + 1 : Nat) : Int) * (((n + 1 : Nat) : Int) - 1) = ((2 * (sp w).length : Nat) : Int) := by
    rw [h2, Int.natCast_mul, show (((n + 1 : Nat) : Int) - 1) = ((n : Nat) : Int) by omega]
  rw [hn, h3]
  omega

end Go.Proofs.Ytlkgojgmgdeieaa.Pure

/- Plain lemmas: the program's search for the first shortest sparse ruler finds the first of all that there are. -/
namespace Go.Proofs.Ytlkgojgmgdeieaa.Pure
open Go.RowKit Go.Proofs.Ytlkgojgmgdeieaa.Fs Go.Proofs.YtlkgojgmgdeieaaW.PrintWords Go.Proofs.YtlkgojgmgdeieaaW.PrintLast

theorem row_eq (a : Int) (bs : List Int) : ∀ T, impl_isSparse.M.row a T bs = tbl T (bs.map (fun b => wrap64 (a - b))) := by
  intro T
  unfold impl_isSparse.M.row tbl
  rw [List.foldl_map]
  rfl
def imd (l : List Int) : Nat → List Int
  | 0 => []
  | i + 1 => imd l i ++ (l.take i).map (fun b => wrap64 (rd l (i : Int) - b))
theorem rows_eq (l : List Int) (i : Nat) : impl_isSparse.M.rows l i = tbl (List.replicate 61 0) (imd l i) := by
  induction i with
  | zero => rfl
  | succ i ih => rw [impl_isSparse.M.rows_succ, ih, row_eq, imd, tbl_append]
theorem imd_count (l : List Int) (d : Int) (i : Nat) : i ≤ l.length → (imd l i).count d = (sp (l.take i)).count d := by
  induction i with
  | zero => intro _; simp [imd, sp]
  | succ i ih =>
    intro hi
    have hil : i < l.length := by omega
    rw [imd, List.count_append, ih (by omega), List.take_succ_eq_append_getElem hil, sp_snoc, rd_eq l i hil]
theorem imd_mem (l : List Int) (d : Int) (i : Nat) (hi : i ≤ l.length) : d ∈ imd l i ↔ d ∈ sp (l.take i) := by
  rw [← List.count_pos_iff, ← List.count_pos_iff, imd_count l d i hi]
theorem imd_len (l : List Int) (i : Nat) : i ≤ 61 → (imd l i).length ≤ i * 61 := by
  induction i with
  | zero => intro _; simp [imd]
  | succ i ih =>
    intro hi
    have := ih (by omega)
    rw [imd, List.length_append, List.length_map, List.length_take]
    omega
theorem ms_times (l : List Int) (h : Good l) (n : Int) (h0 : 0 ≤ n) (h1 : n ≤ 60) : rd (impl_isSparse.M.ms l) n = times l n := by
  have hl := h.len
  have hz : rd (List.replicate 61 0) n = 0 := rd_zeros _ n
  have hs := imd_len l l.length hl
  unfold impl_isSparse.M.ms
  rw [rows_eq, tbl_rd n (imd l l.length) _ (fun d hd => ?_) ⟨h0, by rw [List.length_replicate]; omega⟩ (by rw [hz]; exact Int.le_refl _) (by rw [hz]; omega), hz, Int.zero_add, imd_count l n _ (Nat.le_refl _), List.take_length]
  · rfl
  · rw [imd_mem l d _ (Nat.le_refl _), List.take_length] at hd
    rw [List.length_replicate]
    have := sp_range 60 (Int.le_refl _) l h.up h.mem d hd
    omega
theorem good_fit (l : List Int) (h : Good l) : impl_isSparse.M.fit l := by
  have hl := h.len
  refine ⟨⟨by omega, h.pos⟩, fun i hi j hj => ?_⟩
  rw [rd_eq l i hi, rd_eq l j (by omega)]
  have h1 := List.pairwise_iff_getElem.1 h.up j i (by omega) hi hj
  have h2 := h.mem l[i] (List.getElem_mem _)
  have h3 := h.mem l[j] (List.getElem_mem _)
  rw [w64 (by omega) (by omega)]
  omega
theorem foldl_max_le (b : Int) : ∀ (zs : List Int) (a : Int), zs.foldl max a ≤ b ↔ a ≤ b ∧ ∀ x ∈ zs, x ≤ b
  | [], a => by simp
  | z :: t, a => by
    rw [List.foldl_cons, foldl_max_le b t]
    simp only [List.mem_cons, forall_eq_or_imp]
    constructor
    · rintro ⟨h1, h2⟩; exact ⟨by omega, by omega, h2⟩
    · rintro ⟨h1, h2, h3⟩; exact ⟨by omega, h3⟩
theorem maxOf_le (b : Int) (zs : List Int) (h : 0 < zs.length) : Lib.maxOf zs ≤ b ↔ ∀ x ∈ zs, x ≤ b := by
  unfold Lib.maxOf
  rw [foldl_max_le]
  cases zs with
  | nil => simp at h
  | cons z t => simp
theorem isSparse_eq (l : List Int) (h : Good l) : impl_isSparse.f l = some (sparseB l) := by
  unfold impl_isSparse.f
  rw [if_pos (good_fit l h)]
  congr 1
  have hlen : (impl_isSparse.M.ms l).length = 61 := impl_isSparse.M.rows_length l _
  rw [Bool.eq_iff_iff, decide_eq_true_iff, sparseB_times, maxOf_le 1 _ (by omega), all_rd, hlen]
  constructor
  · intro hh n
    by_cases h0 : 0 ≤ n ∧ n ≤ 60
    · have := hh n h0.1 (by omega)
      rw [ms_times l h n h0.1 h0.2] at this; exact this
    · unfold times
      have : (sp l).count n = 0 := by
        rw [List.count_eq_zero]
        intro hm
        have := sp_range 60 (Int.le_refl _) l h.up h.mem n hm
        omega
      rw [this]; omega
  · intro hh n h0 h1
    rw [ms_times l h n h0 (by omega)]; exact hh n
/-- The first of lists that are not empty is empty if there is none. -/
theorem head_nil {A : List (List Int)} (h : ∀ w ∈ A, w ≠ []) : A.headD [] = [] ↔ A = [] := by
  cases A with
  | nil => simp
  | cons a t =>
    have := h a (by simp)
    simp [this]
theorem allR_full (c : Bool) (e : Int) (he : e ≤ 60) (d : Nat) (l : List Int) (h : Good l) (hle : lastOf l < e) : ∀ w ∈ allR c e d l, w ≠ [] := fun w hw hn => by
  have := (allR_mem c e he d l w h hle hw).2.1
  rw [hn] at this
  simp at this
theorem loop_eq (F : List Int → Option (List Int)) (G : List Int → List (List Int)) (l : List Int) (j : Nat) : ∀ m : Int, (∀ i : Int, m ≤ i → i < m + j → F (l ++ [i]) = some (if sparseB (l ++ [i]) = true then (G (l ++ [i])).headD [] else []) ∧ ∀ w ∈ G (l ++ [i]), w ≠ []) →
    impl_firstSparse.loop F l j m = some ((allL G false l j m).headD []) := by
  induction j with
  | zero => intro m _; rfl
  | succ j ih =>
    intro m h
    obtain ⟨h1, h2⟩ := h m (by omega) (by omega)
    have ih' := ih (m + 1) (fun i g1 g2 => h i (by omega) (by omega))
    rw [impl_firstSparse.loop, h1, Option.bind_some, allL, Bool.false_or, ih']
    by_cases hq : sparseB (l ++ [m]) = true
    · rw [if_pos hq, if_pos hq]
      by_cases hg : G (l ++ [m]) = []
      · rw [hg]; rfl
      · rw [if_neg (fun hn => hg ((head_nil h2).1 hn))]
        cases hG : G (l ++ [m]) with
        | nil => exact absurd hG hg
        | cons a t => rfl
    · rw [if_neg hq, if_neg hq, if_pos rfl]; rfl
theorem allL_more (F : List Int → List (List Int)) (c : Bool) (l : List Int) (i : Nat) (j : Nat) : ∀ m : Int, (∀ q : Int, m + j ≤ q → q < m + j + i → F (l ++ [q]) = []) → allL F c l (j + i) m = allL F c l j m := by
  induction j with
  | zero =>
    intro m h
    rw [Nat.zero_add]
    induction i generalizing m with
    | zero => rfl
    | succ i ih =>
      have e : allL F c l (i + 1) m = (if (c || sparseB (l ++ [m])) = true then F (l ++ [m]) else []) ++ allL F c l i (m + 1) := rfl
      rw [e, h m (by omega) (by omega), ih (m + 1) (fun q h1 h2 => h q (by omega) (by omega))]
      simp [allL]
  | succ j ih =>
    intro m h
    rw [show j + 1 + i = (j + i) + 1 by omega, allL, allL, ih (m + 1) (fun q h1 h2 => h q (by omega) (by omega))]
theorem put_eq (e : Int) (he : e ≤ 60) (d : Nat) : ∀ l : List Int, Good l → lastOf l < e → impl_firstSparse.put e d l = some (if sparseB l = true then (allR false e d l).headD [] else []) := by
  induction d with
  | zero =>
    intro l h hle
    rw [impl_firstSparse.put, isSparse_eq l h, Option.bind_some]
    by_cases hs : sparseB l = true
    · rw [if_pos hs, if_pos hs, isSparse_eq _ (h.snoc hle he), Option.bind_some, allR]
      by_cases hq : sparseB (l ++ [e]) = true
      · rw [if_pos hq, if_pos (show leafB false (l ++ [e]) = true by unfold leafB; rw [if_neg (by simp)]; exact hq)]; rfl
      · rw [if_neg hq, if_neg (show ¬ leafB false (l ++ [e]) = true by unfold leafB; rw [if_neg (by simp)]; exact hq)]; rfl
    · rw [if_neg hs, if_neg hs]
  | succ d ih =>
    intro l h hle
    have hla := h.last
    have hlen := h.len
    have hpos := h.pos
    have htop : impl_firstSparse.top l = lastOf l := by
      unfold impl_firstSparse.top
      rw [(rd_last l h).1, (rd_last l h).2]
    rw [impl_firstSparse.put, isSparse_eq l h, Option.bind_some, htop]
    by_cases hs : sparseB l = true
    · rw [if_pos hs, if_pos hs, if_pos (by omega), allR]
      rw [loop_eq (impl_firstSparse.put e d) (allR false e d) l _ _ (fun i h1 h2 => ⟨ih _ (h.snoc (by omega) (by omega)) (by rw [lastOf_snoc]; omega), allR_full false e he d _ (h.snoc (by omega) (by omega)) (by rw [lastOf_snoc]; omega)⟩)]
      congr 2
      obtain ⟨x, hx⟩ : ∃ x : Nat, (e - (lastOf l + 1)).toNat = (e - ((d : Int) + 1) - lastOf l).toNat + x := ⟨(e - (lastOf l + 1)).toNat - (e - ((d : Int) + 1) - lastOf l).toNat, by omega⟩
      rw [hx]
      refine allL_more _ _ _ _ _ _ (fun q h1 h2 => ?_)
      cases d with
      | zero => omega
      | succ d =>
        rw [allR, lastOf_snoc, show (e - ((d : Int) + 1) - q).toNat = 0 by omega]
        rfl
    · rw [if_neg hs, if_neg hs]
/-- The first marks. -/
theorem good_zero : Good [0] := ⟨by simp, by simp, by simp⟩
theorem last_zero : lastOf [0] = 0 := rfl
theorem sparse_zero : sparseB [0] = true := by decide
/-- The two searches end at the same length. -/
theorem short_loop (many : Nat) (hm : 2 ≤ many ∧ many ≤ 6) (n : Nat) : ∀ e : Nat, 1 ≤ e → e + n ≤ 60 → allR false ((e + n : Nat) : Int) (many - 2) [0] ≠ [] →
    ∃ r : List Int, (r.length = many ∧ Good r) ∧ Ev (fun k => spec_ruShort.l0 k (many : Int) (e : Int)) r ∧ Ev (fun k => impl_firstSparse.l0 (many - 2) k (e : Int)) (r, true) := by
  have w2 : wrap64 ((many : Int) - 2) = ((many - 2 : Nat) : Int) := by rw [w64 (by omega) (by omega)]; omega
  have step : ∀ e : Nat, 1 ≤ e → e ≤ 60 → (∀ r : List Int, Ev (fun k => spec_ruShort.l0 k (many : Int) ((e + 1 : Nat) : Int)) r → allR false (e : Int) (many - 2) [0] = [] → Ev (fun k => spec_ruShort.l0 k (many : Int) (e : Int)) r) ∧
      (∀ r : List Int × Bool, Ev (fun k => impl_firstSparse.l0 (many - 2) k ((e + 1 : Nat) : Int)) r → allR false (e : Int) (many - 2) [0] = [] → Ev (fun k => impl_firstSparse.l0 (many - 2) k (e : Int)) r) ∧
      (allR false (e : Int) (many - 2) [0] ≠ [] → Ev (fun k => spec_ruShort.l0 k (many : Int) (e : Int)) ((allR false (e : Int) (many - 2) [0]).headD []) ∧ Ev (fun k => impl_firstSparse.l0 (many - 2) k (e : Int)) ((allR false (e : Int) (many - 2) [0]).headD [], true)) := by
    intro e he1 he2
    have hs := search_ev false (e : Int) (by omega) (many - 2) [0] good_zero (by rw [last_zero]; omega) (by omega)
    have hp := put_eq (e : Int) (by omega) (many - 2) [0] good_zero (by rw [last_zero]; omega)
    rw [if_pos sparse_zero] at hp
    have w1 : wrap64 ((e : Int) + 1) = ((e + 1 : Nat) : Int) := by rw [w64 (by omega) (by omega)]; rfl
    have hf := allR_full false (e : Int) (by omega) (many - 2) [0] good_zero (by rw [last_zero]; omega)
    refine ⟨fun r hr h0 => ?_, fun r hr h0 => ?_, fun h0 => ⟨?_, ?_⟩⟩
    · refine Ev.step (f := fun k => (spec_ruSearch.f k ([0] : List Int) (e : Int) ((many - 2 : Nat) : Int) false).bind fun bt156 => (if bt156.2 > 0 then (some bt156.1) else (spec_ruShort.l0 k (many : Int) (wrap64 ((e : Int) + 1))))) (fun k => by rw [spec_ruShort.l0, w2]) (Ev.bind hs ?_)
      rw [h0, w1]
      exact Ev.if_neg' (by simp) hr
    · refine Ev.step (fun k => ?_) hr
      rw [impl_firstSparse.l0, if_pos (by omega), hp, Option.bind_some, h0, if_pos (by rfl)]
      rfl
    · refine Ev.step (f := fun k => (spec_ruSearch.f k ([0] : List Int) (e : Int) ((many - 2 : Nat) : Int) false).bind fun bt156 => (if bt156.2 > 0 then (some bt156.1) else (spec_ruShort.l0 k (many : Int) (wrap64 ((e : Int) + 1))))) (fun k => by rw [spec_ruShort.l0, w2]) (Ev.bind hs ?_)
      exact Ev.if_pos' (by have := List.length_pos_iff.2 h0; show ((allR false (e : Int) (many - 2) [0]).length : Int) > 0; omega) (Ev.now _)
    · refine Ev.one (fun k => ?_)
      rw [impl_firstSparse.l0, if_pos (by omega), hp, Option.bind_some, if_neg (fun hn => h0 ((head_nil hf).1 hn))]
  induction n with
  | zero =>
    intro e h1 h2 h3
    obtain ⟨_, _, s3⟩ := step e h1 (by omega)
    obtain ⟨a, b⟩ := s3 h3
    refine ⟨_, ?_, a, b⟩
    have hm2 := allR_mem false (e : Int) (by omega) (many - 2) [0] ((allR false (e : Int) (many - 2) [0]).headD []) good_zero (by rw [last_zero]; omega) (by
      cases hA : allR false (e : Int) (many - 2) [0] with
      | nil => exact absurd hA h3
      | cons a t => simp)
    exact ⟨by rw [hm2.2.1]; simp; omega, hm2.1⟩
  | succ n ih =>
    intro e h1 h2 h3
    obtain ⟨s1, s2, s3⟩ := step e h1 (by omega)
    by_cases h0 : allR false (e : Int) (many - 2) [0] = []
    · obtain ⟨r, hr, ha, hb⟩ := ih (e + 1) (by omega) (by omega) (by rw [show e + 1 + n = e + (n + 1) by omega]; exact h3)
      exact ⟨r, hr, s1 r ha h0, s2 _ hb h0⟩
    · obtain ⟨a, b⟩ := s3 h0
      refine ⟨_, ?_, a, b⟩
      have hm2 := allR_mem false (e : Int) (by omega) (many - 2) [0] ((allR false (e : Int) (many - 2) [0]).headD []) good_zero (by rw [last_zero]; omega) (by
        cases hA : allR false (e : Int) (many - 2) [0] with
        | nil => exact absurd hA h0
        | cons a t => simp)
      exact ⟨by rw [hm2.2.1]; simp; omega, hm2.1⟩
/-- Shorter than so many pairs, there is none. -/
theorem none_short (many : Nat) (hm : 2 ≤ many ∧ many ≤ 6) (e : Nat) (he : 1 ≤ e) (h : 2 * (e : Int) < (many : Int) * ((many : Int) - 1)) (h60 : e ≤ 60) : allR false (e : Int) (many - 2) [0] = [] := by
  cases hA : allR false (e : Int) (many - 2) [0] with
  | nil => rfl
  | cons w t =>
    exfalso
    obtain ⟨g1, g2, g3, g4⟩ := allR_mem false (e : Int) (by omega) (many - 2) [0] w good_zero (by rw [last_zero]; omega) (by rw [hA]; simp)
    have hs : sparseB w = true := by unfold leafB at g4; rw [if_neg (by simp)] at g4; exact g4
    have := sparse_long w g1 hs
    have hl : w.length = many := by rw [g2]; simp; omega
    rw [hl, g3] at this
    omega
theorem skip_short (many : Nat) (hm : 2 ≤ many ∧ many ≤ 6) (r : List Int × Bool) (n : Nat) : ∀ e : Nat, 1 ≤ e → e + n ≤ 60 → (∀ i : Nat, e ≤ i → i < e + n → 2 * (i : Int) < (many : Int) * ((many : Int) - 1)) →
    Ev (fun k => impl_firstSparse.l0 (many - 2) k ((e + n : Nat) : Int)) r → Ev (fun k => impl_firstSparse.l0 (many - 2) k (e : Int)) r := by
  induction n with
  | zero => intro e _ _ _ h; exact h
  | succ n ih =>
    intro e h1 h2 h3 h
    have h4 := ih (e + 1) (by omega) (by omega) (fun i g1 g2 => h3 i (by omega) (by omega)) (by rw [show e + 1 + n = e + (n + 1) by omega]; exact h)
    have hp := put_eq (e : Int) (by omega) (many - 2) [0] good_zero (by rw [last_zero]; omega)
    rw [if_pos sparse_zero, none_short many hm e h1 (h3 e (by omega) (by omega)) (by omega)] at hp
    refine Ev.step (fun k => ?_) h4
    rw [impl_firstSparse.l0, if_pos (by omega), hp, Option.bind_some, if_pos (by rfl)]
    rfl
theorem within_eq (a b c : Int) : impl_within.f a b c = some (decide (b ≤ a ∧ a ≤ c)) := by
  unfold impl_within.f
  by_cases h : b ≤ a <;> simp [h]
theorem short_one (many s n : Nat) (hm : 2 ≤ many ∧ many ≤ 6) (hs : 2 * s = many * (many - 1)) (hs1 : 1 ≤ s ∧ s + n ≤ 60) (ms : List Int) (hml : ms.length = many - 2) (hw : leads false ((s + n : Nat) : Int) ms [0] = true) :
    ∃ r : List Int, (r.length = many ∧ Good r) ∧ Ev (fun k => spec_ruShort.f k (many : Int)) r ∧ Ev (fun k => impl_firstSparse.f k (many : Int)) (r, true) := by
  have hne := leads_ne false ((s + n : Nat) : Int) ms [0] hw
  rw [hml] at hne
  obtain ⟨r, hr, ha, hb⟩ := short_loop many hm n s hs1.1 hs1.2 hne
  have hmm : (many : Int) * ((many : Int) - 1) = 2 * (s : Int) := by
    have : ((2 * s : Nat) : Int) = ((many * (many - 1) : Nat) : Int) := by rw [hs]
    rw [Int.natCast_mul, Int.natCast_mul, show ((many - 1 : Nat) : Int) = (many : Int) - 1 by omega] at this
    omega
  refine ⟨r, hr, ?_, ?_⟩
  · unfold spec_ruShort.f
    have e1 : wrap64 ((many : Int) - 1) = (many : Int) - 1 := w64 (by omega) (by omega)
    have e2 : wrap64 ((many : Int) * ((many : Int) - 1)) = 2 * (s : Int) := by rw [hmm, w64 (by omega) (by omega)]
    have e3 : wrap64 (Int.tdiv (2 * (s : Int)) 2) = (s : Int) := by
      rw [Int.tdiv_eq_ediv_of_nonneg (by omega), w64 (by omega) (by omega)]; omega
    rw [e1, e2, e3]
    exact ha
  · unfold impl_firstSparse.f
    refine Ev.const_bind (within_eq _ _ _) (Ev.if_pos' (decide_eq_true (by omega)) (Ev.if_pos' (by omega) ?_))
    rw [show ((many : Int) - 2).toNat = many - 2 by omega]
    have := skip_short many hm (r, true) (s - 1) 1 (by omega) (by omega) (fun i h1 h2 => by omega) (by rw [show 1 + (s - 1) = s by omega]; exact hb)
    exact this
theorem short_ev (a : Int) (h : 2 ≤ a ∧ a ≤ 6) : ∃ r : List Int, ((r.length : Int) = a ∧ Good r) ∧ Ev (fun k => spec_ruShort.f k a) r ∧ Ev (fun k => impl_firstSparse.f k a) (r, true) := by
  obtain rfl | rfl | rfl | rfl | rfl : a = 2 ∨ a = 3 ∨ a = 4 ∨ a = 5 ∨ a = 6 := by omega
  · obtain ⟨r, ⟨h1, h2⟩, h3⟩ := short_one 2 1 0 (by omega) rfl (by omega) [] rfl (by decide +kernel)
    exact ⟨r, ⟨by omega, h2⟩, h3⟩
  · obtain ⟨r, ⟨h1, h2⟩, h3⟩ := short_one 3 3 0 (by omega) rfl (by omega) [1] rfl (by decide +kernel)
    exact ⟨r, ⟨by omega, h2⟩, h3⟩
  · obtain ⟨r, ⟨h1, h2⟩, h3⟩ := short_one 4 6 0 (by omega) rfl (by omega) [1, 4] rfl (by decide +kernel)
    exact ⟨r, ⟨by omega, h2⟩, h3⟩
  · obtain ⟨r, ⟨h1, h2⟩, h3⟩ := short_one 5 10 1 (by omega) rfl (by omega) [1, 4, 9] rfl (by decide +kernel)
    exact ⟨r, ⟨by omega, h2⟩, h3⟩
  · obtain ⟨r, ⟨h1, h2⟩, h3⟩ := short_one 6 15 2 (by omega) rfl (by omega) [1, 4, 10, 12] rfl (by decide +kernel)
    exact ⟨r, ⟨by omega, h2⟩, h3⟩

end Go.Proofs.Ytlkgojgmgdeieaa.Pure
