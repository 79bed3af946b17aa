/- Plain lemmas of several texts in one: EvBase, EqS0, Mark, Times0, Search0, Search1, Ones0, Told0, Comp0. -/
import Derived.Test.YtlkgojgmgdeieaaWWords
import Derived.Test.YtlkgojgmgdeieaaWMore
import Derived.Test.YtlkgojgmgdeieaaFcx1
import Derived.Test.YtlkgojgmgdeieaaFcx2
import Derived.Test.YtlkgojgmgdeieaaFcx3
import Derived.Test.YtlkgojgmgdeieaaFcx4
import Derived.Test.YtlkgojgmgdeieaaFcx5
import Derived.Test.YtlkgojgmgdeieaaFcx6
/- Plain lemmas: the part of Base that no list is wanted for. -/
namespace Go.Proofs.Ytlkgojgmgdeieaa.Pure
open Go.RowKit Go.Proofs.Ytlkgojgmgdeieaa.Fc Go.Proofs.YtlkgojgmgdeieaaW.PrintWords Go.Proofs.YtlkgojgmgdeieaaW.PrintLast

theorem Ev.eq {α : Type} {g f : Nat → Option α} {r : α} (h : ∀ k, g (k + 1) = f k) (k : Ev f r) : Ev g r := Ev.step h k
theorem Ev.pure' {α : Type} {g : Nat → Option α} {r : α} (h : ∀ k, g k = some r) : Ev g r := ⟨0, fun k _ => h k⟩
theorem Ev.one {α : Type} {g : Nat → Option α} {r : α} (h : ∀ k, g (k + 1) = some r) : Ev g r := Ev.step (f := fun _ => some r) h (Ev.now r)
theorem Ev.some_bind {α β : Type} {f : Nat → α → Option β} {a : α} {r : β} (h : Ev (fun n => f n a) r) : Ev (fun n => (some a).bind (f n)) r := h
theorem Ev.if_pos' {α : Type} {c : Prop} [Decidable c] {g f : Nat → Option α} {r : α} (hc : c) (h : Ev g r) : Ev (fun n => if c then g n else f n) r := by
  simpa only [if_pos hc] using h
theorem Ev.if_neg' {α : Type} {c : Prop} [Decidable c] {g f : Nat → Option α} {r : α} (hc : ¬ c) (h : Ev f r) : Ev (fun n => if c then g n else f n) r := by
  simpa only [if_neg hc] using h
theorem Ev.const_bind {α β : Type} {g : Option α} {f : Nat → α → Option β} {a : α} {r : β} (h : g = some a) (k : Ev (fun n => f n a) r) : Ev (fun n => g.bind (f n)) r := by
  simpa only [h, Option.bind_some] using k
/-- More rounds may be taken. -/
theorem Ev.le {α : Type} {g f : Nat → Option α} {r : α} (h : Ev g r) (hle : ∀ k, LeO (g k) (f k)) : Ev f r := by
  obtain ⟨K, hK⟩ := h
  exact ⟨K, fun k hk => hle k _ (hK k hk)⟩

theorem w64 {x : Int} (h0 : -9223372036854775808 ≤ x) (h1 : x ≤ 9223372036854775807) : wrap64 x = x := by unfold wrap64; omega
theorem rd_eq (l : List Int) (i : Nat) (h : i < l.length) : rd l (i : Int) = l[i] := by simp [rd, h]
theorem rd_nat (l : List Int) (i : Nat) : rd l (i : Int) = l.getD i 0 := rfl

theorem l1In_eq (a b c : Int) : spec_l1In.f a b c = some (decide (b ≤ a ∧ a ≤ c)) := by
  unfold spec_l1In.f
  by_cases h : a ≥ b <;> simp [h, ge_iff_le] <;> omega

end Go.Proofs.Ytlkgojgmgdeieaa.Pure

/- Plain lemmas: two lists compared. -/
namespace Go.Proofs.Ytlkgojgmgdeieaa.Pure
open Go.RowKit Go.Proofs.Ytlkgojgmgdeieaa.Fc Go.Proofs.YtlkgojgmgdeieaaW.PrintWords Go.Proofs.YtlkgojgmgdeieaaW.PrintLast

theorem eqIntS_loop (a b : List Int) (hab : a.length = b.length) (hl : a.length ≤ 35184372088832) (d : Nat) : ∀ (i : Nat), a.length - i = d → i ≤ a.length →
    Ev (fun k => laws_eqIntS.l0 k a b (i : Int)) (decide (a.drop i = b.drop i)) := by
  induction d with
  | zero =>
    intro i hd hi
    refine Ev.one fun k => ?_
    rw [laws_eqIntS.l0, if_neg (by omega), List.drop_of_length_le (by omega), List.drop_of_length_le (by omega)]
    simp
  | succ d ih =>
    intro i hd hi
    have hi' : i < a.length := by omega
    have h := ih (i + 1) (by omega) (by omega)
    have hib : i < b.length := by omega
    rw [List.drop_eq_getElem_cons hi', List.drop_eq_getElem_cons hib]
    by_cases he : a[i] = b[i]
    · refine Ev.step (f := fun k => laws_eqIntS.l0 k a b ((i + 1 : Nat) : Int)) (fun k => ?_) (by simp only [he, List.cons.injEq, true_and]; exact h)
      rw [laws_eqIntS.l0, if_pos (by omega), if_pos (by omega), if_pos (by omega), if_pos (by rw [rd_eq a i hi', rd_eq b i hib, he]), w64 (by omega) (by omega)]
      rfl
    · refine Ev.one fun k => ?_
      rw [laws_eqIntS.l0, if_pos (by omega), if_pos (by omega), if_pos (by omega), if_neg (by rw [rd_eq a i hi', rd_eq b i hib]; exact he)]
      rw [decide_eq_false (fun e => he (List.cons.inj e).1)]
theorem eqIntS_ev (a b : List Int) (hl : a.length ≤ 35184372088832) : Ev (fun k => laws_eqIntS.f k a b) (decide (a = b)) := by
  unfold laws_eqIntS.f
  by_cases h : a.length = b.length
  · refine Ev.if_pos' (by omega) ?_
    simpa using eqIntS_loop a b h hl a.length 0 (by omega) (by omega)
  · refine Ev.if_neg' (by omega) ?_
    rw [decide_eq_false (fun e => h (by rw [e]))]
    exact Ev.now _
theorem eqIntS_self (a : List Int) (hl : a.length ≤ 35184372088832) : Ev (fun k => laws_eqIntS.f k a a) true := by
  simpa using eqIntS_ev a a hl

end Go.Proofs.Ytlkgojgmgdeieaa.Pure

/- Plain lemmas: a list that is marked with 1, 2, .. holds just these marks. -/
namespace Go.Proofs.Ytlkgojgmgdeieaa.Pure
open Go.RowKit Go.Proofs.Ytlkgojgmgdeieaa.Fc Go.Proofs.YtlkgojgmgdeieaaW.PrintWords Go.Proofs.YtlkgojgmgdeieaaW.PrintLast

/-- s, s + 1, .., n numbers. -/
def upfrom (s : Int) : Nat → List Int
  | 0 => []
  | n + 1 => s :: upfrom (s + 1) n
theorem upfrom_length (n : Nat) : ∀ s, (upfrom s n).length = n := by
  induction n with
  | zero => intro s; rfl
  | succ n ih => intro s; simp [upfrom, ih]
theorem upfrom_get (n : Nat) : ∀ (s : Int) (i : Nat), i < n → (upfrom s n).getD i 0 = s + i := by
  induction n with
  | zero => intro s i h; omega
  | succ n ih =>
    intro s i h
    cases i with
    | zero => simp [upfrom]
    | succ i =>
      have := ih (s + 1) i (by omega)
      simp only [upfrom, List.getD_cons_succ, this]
      omega
theorem mark_loop (n : Nat) : ∀ (A B : List Int) (s : Int), B.length = n → A.length + n ≤ 35184372088832 → 0 ≤ s → s + n ≤ 70368744177664 →
    Ev (fun k => laws_markIntS.l0 k (A ++ B) s (A.length : Int)) (s + n, A ++ upfrom s n) := by
  induction n with
  | zero =>
    intro A B s hB hn h0 h1
    obtain rfl := List.eq_nil_of_length_eq_zero hB
    refine Ev.one fun k => ?_
    rw [laws_markIntS.l0, if_neg (by simp)]
    simp [upfrom]
  | succ n ih =>
    intro A B s hB hn h0 h1
    cases B with
    | nil => simp at hB
    | cons b B =>
      have h := ih (A ++ [s]) B (s + 1) (by simpa using hB) (by simp; omega) (by omega) (by omega)
      refine Ev.step (f := fun k => laws_markIntS.l0 k ((A ++ [s]) ++ B) (s + 1) ((A ++ [s]).length : Int)) (fun k => ?_) ?_
      · rw [laws_markIntS.l0, if_pos (by simp; omega), if_pos (by omega), w64 (by omega) (by omega), w64 (by omega) (by omega)]
        simp
      · have e : s + 1 + (n : Int) = s + ((n + 1 : Nat) : Int) := by omega
        rw [e] at h
        simpa [upfrom] using h
theorem held_loop (n : Nat) (L : List Int) (d : Nat) : ∀ (i : Nat) (s : Int), n - i = d → i ≤ n → L.length = n → n ≤ 35184372088832 → 0 ≤ s → s + d ≤ 70368744177664 → (∀ j, i ≤ j → j < n → L.getD j 0 = s + ((j - i : Nat) : Int)) →
    Ev (fun k => laws_heldIntS.l0 k L s (i : Int)) (s + d) := by
  induction d with
  | zero =>
    intro i s hd hi hL hn h0 h1 hv
    refine Ev.one fun k => ?_
    rw [laws_heldIntS.l0, if_neg (by omega)]
    simp
  | succ d ih =>
    intro i s hd hi hL hn h0 h1 hv
    have h := ih (i + 1) (s + 1) (by omega) (by omega) hL hn (by omega) (by omega) (fun j hj hj' => by rw [hv j (by omega) hj']; omega)
    have e : s + 1 + (d : Int) = s + ((d + 1 : Nat) : Int) := by omega
    rw [e] at h
    refine Ev.step (fun k => ?_) h
    have hg := hv i (by omega) (by omega)
    rw [laws_heldIntS.l0, if_pos (by omega), if_pos (by omega), rd_nat, hg, if_pos (by omega), w64 (by omega) (by omega), w64 (by omega) (by omega)]
    rfl
theorem mark_ev (l : List Int) (hl : l.length ≤ 35184372088831) : Ev (fun k => laws_markIntS.f k l 1) (1 + (l.length : Int), upfrom 1 l.length) := by
  unfold laws_markIntS.f
  simpa using mark_loop l.length [] l 1 rfl (by simp; omega) (by omega) (by omega)
theorem held_ev (n : Nat) (hn : n ≤ 35184372088831) : Ev (fun k => laws_heldIntS.f k (upfrom 1 n) 1) (1 + (n : Int)) := by
  unfold laws_heldIntS.f
  exact held_loop n (upfrom 1 n) n 0 1 (by omega) (by omega) (upfrom_length n 1) (by omega) (by omega) (by omega) (fun j _ hj => by rw [upfrom_get n 1 j hj]; simp)

end Go.Proofs.Ytlkgojgmgdeieaa.Pure

/- Plain lemmas: how often marks that rise measure each length, by the reference; whether none is measured twice, whether one is missing. -/
namespace Go.Proofs.Ytlkgojgmgdeieaa.Pure
open Go.RowKit Go.Proofs.Ytlkgojgmgdeieaa.Fc Go.Proofs.YtlkgojgmgdeieaaW.PrintWords Go.Proofs.YtlkgojgmgdeieaaW.PrintLast

/-- Whole numbers that rise from a to b are b - a + 1 at most. -/
theorem rises_count : ∀ (l : List Int) (lo hi : Int), l.Pairwise (· < ·) → (∀ x ∈ l, lo ≤ x ∧ x ≤ hi) → l = [] ∨ (l.length : Int) ≤ hi - lo + 1
  | [], _, _, _, _ => .inl rfl
  | a :: t, lo, hi, hp, hm => by
    right
    have ha := hm a (by simp)
    rcases rises_count t (a + 1) hi (List.pairwise_cons.1 hp).2 (fun x hx => ⟨by have := (List.pairwise_cons.1 hp).1 x hx; omega, (hm x (by simp [hx])).2⟩) with rfl | h
    · simp; omega
    · simp only [List.length_cons]; omega
def lastOf (l : List Int) : Int := l.getD (l.length - 1) 0
def bump (T : List Int) (d : Int) : List Int := T.set d.toNat (wrap64 (rd T d + 1))
def tbl (T ds : List Int) : List Int := ds.foldl bump T
theorem bump_length (T : List Int) (d : Int) : (bump T d).length = T.length := by simp [bump]
theorem tbl_length (ds : List Int) : ∀ T, (tbl T ds).length = T.length := by
  induction ds with
  | nil => intro T; rfl
  | cons d t ih => intro T; show (tbl (bump T d) t).length = _; rw [ih, bump_length]
theorem bump_rd (T : List Int) (d n : Int) (hd : 0 ≤ d ∧ d < T.length) (hn : 0 ≤ n ∧ n < T.length) (hT : -1 ≤ rd T n ∧ rd T n ≤ 1000000) : rd (bump T d) n = rd T n + (if d = n then 1 else 0) := by
  show (T.set d.toNat (wrap64 (rd T d + 1))).getD n.toNat 0 = _
  have hnl : n.toNat < T.length := by omega
  rw [List.getD_eq_getElem?_getD, List.getElem?_set]
  by_cases h : d = n
  · subst h
    rw [if_pos rfl, if_pos hnl, if_pos rfl, w64 (by omega) (by omega)]; rfl
  · rw [if_neg (by omega), if_neg h, Int.add_zero]; rfl
theorem tbl_rd (n : Int) (ds : List Int) : ∀ (T : List Int), (∀ d ∈ ds, 0 ≤ d ∧ d < T.length) → 0 ≤ n ∧ n < T.length → 0 ≤ rd T n → rd T n + ds.length ≤ 1000000 → rd (tbl T ds) n = rd T n + (ds.count n : Int) := by
  induction ds with
  | nil => intro T _ _ _ _; simp [tbl]
  | cons d t ih =>
    intro T hd hn h0 hT
    simp only [List.length_cons] at hT
    have hb := bump_rd T d n (hd d (by simp)) hn ⟨by omega, by omega⟩
    have h1 : 0 ≤ rd (bump T d) n ∧ rd (bump T d) n ≤ rd T n + 1 := by rw [hb]; split <;> omega
    have := ih (bump T d) (fun x hx => by rw [bump_length]; exact hd x (by simp [hx])) (by rw [bump_length]; exact hn) h1.1 (by omega)
    show rd (tbl (bump T d) t) n = _
    rw [this, hb, List.count_cons]
    by_cases h : d = n
    · subst h; simp; omega
    · have : (d == n) = false := by simpa using h
      rw [this]; simp [h]
theorem rd_zeros (m : Nat) (n : Int) : rd (List.replicate m 0) n = 0 := by
  show (List.replicate m (0 : Int)).getD n.toNat 0 = 0
  rw [List.getD_eq_getElem?_getD, List.getElem?_replicate]
  split <;> rfl
/-- The differences of a list's pairs, each pair's later one less its earlier one. -/
def sp : List Int → List Int
  | [] => []
  | a :: t => t.map (fun b => wrap64 (b - a)) ++ sp t
theorem sp_snoc (d a : Int) : ∀ l : List Int, (sp (l ++ [a])).count d = (sp l).count d + (l.map (fun b => wrap64 (a - b))).count d
  | [] => by simp [sp]
  | b :: t => by
    have ih := sp_snoc d a t
    simp only [List.cons_append, sp, List.map_append, List.map_cons, List.map_nil, List.count_append, List.count_cons, List.count_nil, ih]
    omega
structure Good (l : List Int) : Prop where
  pos : 1 ≤ l.length
  up : l.Pairwise (· < ·)
  mem : ∀ x ∈ l, 0 ≤ x ∧ x ≤ 60
theorem Good.len {l : List Int} (h : Good l) : l.length ≤ 61 := by
  rcases rises_count l 0 60 h.up h.mem with rfl | h
  · simp
  · omega
theorem Good.last {l : List Int} (h : Good l) : 0 ≤ lastOf l ∧ lastOf l ≤ 60 := by
  have := h.pos
  unfold lastOf
  rw [← rd_nat, rd_eq l _ (by omega)]
  exact h.mem _ (List.getElem_mem _)
theorem Good.le_last {l : List Int} (h : Good l) : ∀ x ∈ l, x ≤ lastOf l := by
  intro x hx
  obtain ⟨i, hi, rfl⟩ := List.mem_iff_getElem.1 hx
  have hp := h.pos
  unfold lastOf
  rw [← rd_nat, rd_eq l _ (by omega)]
  by_cases e : i = l.length - 1
  · subst e; exact Int.le_refl _
  · exact Int.le_of_lt (List.pairwise_iff_getElem.1 h.up i (l.length - 1) hi (by omega) (by omega))
theorem sp_range (hi : Int) (hh : hi ≤ 60) : ∀ l : List Int, l.Pairwise (· < ·) → (∀ x ∈ l, 0 ≤ x ∧ x ≤ hi) → ∀ d ∈ sp l, 0 ≤ d ∧ d ≤ hi
  | [], _, _, d, hd => by simp [sp] at hd
  | a :: t, hp, hm, d, hd => by
    rw [sp, List.mem_append] at hd
    rcases hd with hd | hd
    · obtain ⟨b, hb, rfl⟩ := List.mem_map.1 hd
      have h1 := (List.pairwise_cons.1 hp).1 b hb
      have h2 := hm b (by simp [hb])
      have h3 := hm a (by simp)
      rw [w64 (by omega) (by omega)]
      omega
    · exact sp_range hi hh t (List.pairwise_cons.1 hp).2 (fun x hx => hm x (by simp [hx])) d hd
theorem sp_len : ∀ l : List Int, (sp l).length ≤ l.length * l.length
  | [] => by simp [sp]
  | a :: t => by
    have := sp_len t
    simp only [sp, List.length_append, List.length_map, List.length_cons]
    rw [Nat.mul_add, Nat.add_mul]; omega
theorem Good.sp_len {l : List Int} (h : Good l) : (sp l).length ≤ 3721 := by
  have := Pure.sp_len l
  have hl := h.len
  have : l.length * l.length ≤ 61 * 61 := Nat.mul_le_mul hl hl
  omega
/-- How often a length is measured. -/
def times (l : List Int) (n : Int) : Int := ((sp l).count n : Int)
theorem ruTimes_inner (l : List Int) (a : Int) (L : List Int) (i : Nat) (r : List Int) (d : Nat) : ∀ (j : Nat) (T : List Int), L.length - j = d → j ≤ L.length → L.length ≤ 1000000 → (∀ b ∈ L.drop j, 0 ≤ wrap64 (b - a) ∧ wrap64 (b - a) < T.length) →
    Ev (fun k => spec_ruTimes.l0 k l (tbl T ((L.drop j).map (fun b => wrap64 (b - a)))) l (l.length : Int) (wrap64 ((i : Int) + 1))) r →
    Ev (fun k => spec_ruTimes.l1 k l T a l (l.length : Int) (i : Int) L (L.length : Int) (j : Int)) r := by
  induction d with
  | zero =>
    intro j T hd hj hL _ h
    rw [List.drop_of_length_le (by omega)] at h
    refine Ev.step (fun k => ?_) h
    rw [spec_ruTimes.l1, if_neg (by omega)]; rfl
  | succ d ih =>
    intro j T hd hj hL hr h
    have hjl : j < L.length := by omega
    rw [List.drop_eq_getElem_cons hjl] at h hr
    have h0 := hr L[j] List.mem_cons_self
    have ih' := ih (j + 1) (bump T (wrap64 (L[j] - a))) (by omega) (by omega) hL (fun b hb => by rw [bump_length]; exact hr b (List.mem_cons_of_mem _ hb)) h
    refine Ev.step (fun k => ?_) ih'
    rw [spec_ruTimes.l1, if_pos (by omega), if_pos (by omega), if_pos (by omega), rd_eq L j hjl, if_pos h0.1, if_pos h0.2, w64 (x := (j : Int) + 1) (by omega) (by omega)]
    rfl
theorem tbl_append (T a b : List Int) : tbl T (a ++ b) = tbl (tbl T a) b := by simp [tbl]
theorem ruTimes_outer (l : List Int) (h : Good l) (d : Nat) : ∀ (i : Nat) (T : List Int), l.length - i = d → i ≤ l.length → (T.length : Int) = lastOf l + 1 →
    Ev (fun k => spec_ruTimes.l0 k l T l (l.length : Int) (i : Int)) (tbl T (sp (l.drop i))) := by
  have hlen := h.len
  induction d with
  | zero =>
    intro i T hd hi hT
    rw [List.drop_of_length_le (by omega)]
    exact Ev.one fun k => by rw [spec_ruTimes.l0, if_neg (by omega)]; rfl
  | succ d ih =>
    intro i T hd hi hT
    have hil : i < l.length := by omega
    have ih' := ih (i + 1) (tbl T ((l.drop (i + 1)).map (fun b => wrap64 (b - l[i])))) (by omega) (by omega) (by rw [tbl_length]; exact hT)
    have e1 : wrap64 ((i : Int) + 1) = ((i + 1 : Nat) : Int) := by rw [w64 (by omega) (by omega)]; rfl
    rw [List.drop_eq_getElem_cons hil, sp, tbl_append]
    refine Ev.step (f := fun k => spec_ruTimes.l1 k l T l[i] l (l.length : Int) (i : Int) (l.drop (i + 1)) ((l.drop (i + 1)).length : Int) ((0 : Nat) : Int)) (fun k => ?_) ?_
    · rw [spec_ruTimes.l0, if_pos (by omega), if_pos (by omega), if_pos (by omega), e1, if_pos (by omega), if_pos (by omega), rd_eq l i hil, Int.toNat_natCast]; rfl
    · refine ruTimes_inner l l[i] (l.drop (i + 1)) i _ _ 0 T rfl (Nat.zero_le _) (by rw [List.length_drop]; omega) (fun b hb => ?_) ?_
      · rw [List.drop_zero] at hb
        obtain ⟨q, hq, rfl⟩ := List.mem_iff_getElem.1 hb
        rw [List.length_drop] at hq
        rw [List.getElem_drop]
        have h1 := List.pairwise_iff_getElem.1 h.up i (i + 1 + q) hil (by omega) (by omega)
        have h2 := h.mem l[i] (List.getElem_mem _)
        have h3 := h.le_last l[i + 1 + q] (List.getElem_mem _)
        have h4 := h.last
        rw [w64 (by omega) (by omega)]
        omega
      · rw [List.drop_zero, e1]; exact ih'
theorem ruTimes_ev (l : List Int) (h : Good l) : ∃ T : List Int, Ev (fun k => spec_ruTimes.f k l) T ∧ (T.length : Int) = lastOf l + 1 ∧ ∀ n : Int, 0 ≤ n → n ≤ lastOf l → rd T n = times l n := by
  have hp := h.pos
  have hl := h.len
  have hla := h.last
  have e1 : wrap64 ((l.length : Int) - 1) = ((l.length - 1 : Nat) : Int) := by rw [w64 (by omega) (by omega)]; omega
  have e2 : rd l ((l.length - 1 : Nat) : Int) = lastOf l := rfl
  refine ⟨tbl (List.replicate (lastOf l + 1).toNat 0) (sp (l.drop 0)), ?_, ?_, ?_⟩
  · unfold spec_ruTimes.f
    rw [e1, e2, w64 (by omega) (by omega)]
    refine Ev.if_pos' (by omega) (Ev.if_pos' (by omega) (Ev.if_pos' (by omega) (Ev.if_pos' (by omega) ?_)))
    exact ruTimes_outer l h l.length 0 _ (by omega) (by omega) (by rw [List.length_replicate]; omega)
  · rw [tbl_length, List.length_replicate]; omega
  · intro n h0 h1
    have hz : rd (List.replicate (lastOf l + 1).toNat 0) n = 0 := rd_zeros _ n
    have hs := h.sp_len
    rw [List.drop_zero, tbl_rd n (sp l) _ (fun d hd => ?_) ⟨h0, by rw [List.length_replicate]; omega⟩ (by rw [hz]; exact Int.le_refl _) (by rw [hz]; omega), hz, Int.zero_add]
    · rfl
    · rw [List.length_replicate]
      have := sp_range (lastOf l) hla.2 l h.up (fun x hx => ⟨(h.mem x hx).1, h.le_last x hx⟩) d hd
      omega
/-- The lengths up to k for which a number is above 0, or is not. -/
def pickF (f : Int → Int) (m : Bool) (k : Nat) : List Int := ((List.range k).map (fun (j : Nat) => (j : Int) + 1)).filter (fun n => decide (0 < f n) == m)
theorem pickF_succ (f : Int → Int) (m : Bool) (k : Nat) : pickF f m (k + 1) = pickF f m k ++ (if (decide (0 < f ((k : Int) + 1)) == m) = true then [(k : Int) + 1] else []) := by
  unfold pickF
  rw [List.range_succ, List.map_append, List.filter_append]
  simp only [List.map_cons, List.map_nil, List.filter_cons, List.filter_nil]
theorem pickF_length (f : Int → Int) (m : Bool) (k : Nat) : (pickF f m k).length ≤ k := by
  unfold pickF
  exact Nat.le_trans (List.length_filter_le _ _) (by simp)
theorem pickF_congr (f g : Int → Int) (m : Bool) (k : Nat) (h : ∀ n : Int, 0 < n → n ≤ k → f n = g n) : pickF f m k = pickF g m k := by
  induction k with
  | zero => rfl
  | succ k ih =>
    rw [pickF_succ, pickF_succ, h ((k : Int) + 1) (by omega) (by omega), ih (fun n h1 h2 => h n h1 (by omega))]
/-- The lengths that are measured, or not. -/
def with_ (l : List Int) (m : Bool) : List Int := pickF (times l) m (lastOf l).toNat
theorem ruWith_loop (T : List Int) (m : Bool) (hT : T.length ≤ 61) (d : Nat) : ∀ i : Nat, T.length - (i + 1) = d → i + 1 ≤ T.length →
    Ev (fun k => spec_ruWith.l0 k m (pickF (rd T) m i) T (T.length : Int) ((i + 1 : Nat) : Int)) (pickF (rd T) m (T.length - 1)) := by
  induction d with
  | zero =>
    intro i hd hi
    refine Ev.one fun k => ?_
    rw [spec_ruWith.l0, if_neg (by omega), show i = T.length - 1 by omega]
  | succ d ih =>
    intro i hd hi
    have hil : i + 1 < T.length := by omega
    have h := ih (i + 1) (by omega) (by omega)
    have hpl : (pickF (rd T) m i).length ≤ i := pickF_length (rd T) m i
    refine Ev.step (fun k => ?_) h
    have e1 : wrap64 (((i + 1 : Nat) : Int) + 1) = ((i + 1 + 1 : Nat) : Int) := by rw [w64 (by omega) (by omega)]; rfl
    have hps : pickF (rd T) m (i + 1) = pickF (rd T) m i ++ (if (decide (0 < rd T ((i : Int) + 1)) == m) = true then [(i : Int) + 1] else []) := pickF_succ (rd T) m i
    rw [spec_ruWith.l0, if_pos (by omega), if_pos (by omega), if_pos (by omega), if_pos (by omega), e1, hps]
    by_cases hc : (decide (0 < rd T ((i : Int) + 1)) == m) = true
    · rw [if_pos (by simpa using hc), if_pos (by omega), if_pos hc]
      rfl
    · rw [if_neg (by simpa using hc), if_neg hc, List.append_nil]
theorem ruWith_ev (l : List Int) (h : Good l) (m : Bool) : Ev (fun k => spec_ruWith.f k l m) (with_ l m) := by
  obtain ⟨T, hT, hlen, htm⟩ := ruTimes_ev l h
  have hla := h.last
  unfold spec_ruWith.f
  refine Ev.bind hT ?_
  have e : with_ l m = pickF (rd T) m (T.length - 1) := by
    unfold with_
    rw [show T.length - 1 = (lastOf l).toNat by omega]
    exact pickF_congr _ _ m _ fun n h1 h2 => (htm n (by omega) (by omega)).symm
  rw [e]
  refine Ev.step (fun k => ?_) (ruWith_loop T m (by omega) (T.length - 1) 0 (by omega) (by omega))
  rw [spec_ruWith.l0, if_pos (by omega), if_pos (by omega), if_pos (by omega), if_neg (by omega), w64 (by omega) (by omega)]
  rfl
theorem times_zero (l : List Int) (h : Good l) (n : Int) (h1 : lastOf l < n) : times l n = 0 := by
  unfold times
  have hla := h.last
  have : (sp l).count n = 0 := by
    rw [List.count_eq_zero]
    intro hm
    have := sp_range (lastOf l) hla.2 l h.up (fun x hx => ⟨(h.mem x hx).1, h.le_last x hx⟩) n hm
    omega
  rw [this]; rfl
/-- All values of a table, by their places. -/
theorem all_rd (b : Int) (T : List Int) : (∀ x ∈ T, x ≤ b) ↔ ∀ n : Int, 0 ≤ n → n < T.length → rd T n ≤ b := by
  constructor
  · intro h n h0 h1
    obtain ⟨i, rfl⟩ : ∃ i : Nat, n = i := ⟨n.toNat, by omega⟩
    rw [rd_eq T i (by omega)]
    exact h _ (List.getElem_mem _)
  · intro h x hx
    obtain ⟨i, hi, rfl⟩ := List.mem_iff_getElem.1 hx
    rw [← rd_eq T i hi]
    exact h i (by omega) (by omega)
theorem ruSparse_loop (T : List Int) (hT : T.length ≤ 61) (d : Nat) : ∀ i : Nat, T.length - i = d → i ≤ T.length →
    Ev (fun k => spec_ruSparse.l0 k T (T.length : Int) (i : Int)) ((T.drop i).all (fun x => decide (x ≤ 1))) := by
  induction d with
  | zero =>
    intro i hd hi
    rw [List.drop_of_length_le (by omega)]
    exact Ev.one fun k => by rw [spec_ruSparse.l0, if_neg (by omega)]; rfl
  | succ d ih =>
    intro i hd hi
    have hil : i < T.length := by omega
    rw [List.drop_eq_getElem_cons hil, List.all_cons]
    by_cases h : T[i] > 1
    · rw [decide_eq_false (by omega), Bool.false_and]
      exact Ev.one fun k => by rw [spec_ruSparse.l0, if_pos (by omega), if_pos (by omega), if_pos (by omega), if_pos (by rw [rd_eq T i hil]; exact h)]
    · rw [decide_eq_true (by omega), Bool.true_and]
      refine Ev.step (fun k => ?_) (ih (i + 1) (by omega) (by omega))
      rw [spec_ruSparse.l0, if_pos (by omega), if_pos (by omega), if_pos (by omega), if_neg (by rw [rd_eq T i hil]; exact h), w64 (by omega) (by omega)]; rfl
/-- No length is measured twice. -/
def sparseB (l : List Int) : Bool := decide (∀ n ∈ sp l, (sp l).count n ≤ 1)
theorem sparseB_times (l : List Int) : sparseB l = true ↔ ∀ n : Int, times l n ≤ 1 := by
  unfold sparseB times
  rw [decide_eq_true_iff]
  constructor
  · intro h n
    by_cases hn : n ∈ sp l
    · have := h n hn; omega
    · have := List.count_eq_zero.2 hn; omega
  · intro h n _
    have := h n; omega
theorem ruSparse_ev (l : List Int) (h : Good l) : Ev (fun k => spec_ruSparse.f k l) (sparseB l) := by
  obtain ⟨T, hT, hlen, htm⟩ := ruTimes_ev l h
  have hla := h.last
  unfold spec_ruSparse.f
  refine Ev.bind hT ?_
  have e : sparseB l = (T.drop 0).all (fun x => decide (x ≤ 1)) := by
    rw [Bool.eq_iff_iff, sparseB_times, List.all_eq_true, List.drop_zero]
    simp only [decide_eq_true_eq]
    rw [all_rd]
    constructor
    · intro hh n h0 h1
      rw [htm n h0 (by omega)]; exact hh n
    · intro hh n
      by_cases h0 : 0 ≤ n
      · by_cases hn : n ≤ lastOf l
        · have := hh n h0 (by omega)
          rw [htm n h0 hn] at this; exact this
        · rw [times_zero l h n (by omega)]; omega
      · unfold times
        have : (sp l).count n = 0 := by
          rw [List.count_eq_zero]
          intro hm
          have := sp_range 60 (Int.le_refl _) l h.up h.mem n hm
          omega
        rw [this]; omega
  rw [e]
  exact ruSparse_loop T (by omega) T.length 0 (by omega) (by omega)

end Go.Proofs.Ytlkgojgmgdeieaa.Pure

/- Plain lemmas: the reference's search for rulers: it hands back the first of all rulers that there are, and how many these are. -/
namespace Go.Proofs.Ytlkgojgmgdeieaa.Pure
open Go.RowKit Go.Proofs.Ytlkgojgmgdeieaa.Fc Go.Proofs.YtlkgojgmgdeieaaW.PrintWords Go.Proofs.YtlkgojgmgdeieaaW.PrintLast

theorem ownS_eq (l : List Int) (hl : l.length ≤ 1000000) : spec_l1Own.f l = some l := by
  unfold spec_l1Own.f
  simp; omega
theorem lastOf_snoc (l : List Int) (m : Int) : lastOf (l ++ [m]) = m := by
  unfold lastOf
  rw [List.length_append, List.getD_eq_getElem?_getD]
  simp
theorem Good.snoc {l : List Int} (h : Good l) {m : Int} (h1 : lastOf l < m) (h2 : m ≤ 60) : Good (l ++ [m]) := by
  have hl := h.last
  refine ⟨by rw [List.length_append]; simp, ?_, ?_⟩
  · rw [List.pairwise_append]
    refine ⟨h.up, List.pairwise_singleton _ _, fun x hx y hy => ?_⟩
    obtain rfl : y = m := by simpa using hy
    have := h.le_last x hx
    omega
  · intro x hx
    rcases List.mem_append.1 hx with hx | hx
    · exact h.mem x hx
    · obtain rfl : x = m := by simpa using hx
      omega
theorem rd_last (l : List Int) (h : Good l) : wrap64 ((l.length : Int) - 1) = ((l.length - 1 : Nat) : Int) ∧ rd l ((l.length - 1 : Nat) : Int) = lastOf l := by
  have hp := h.pos
  have hl := h.len
  exact ⟨by rw [w64 (by omega) (by omega)]; omega, rfl⟩
/-- Whether a whole ruler is asked for: complete, or sparse. -/
def leafB (c : Bool) (l : List Int) : Bool := if c = true then decide (with_ l false = []) else sparseB l
/-- All rulers whose next mark is one of j marks from m on. -/
def allL (F : List Int → List (List Int)) (c : Bool) (l : List Int) : Nat → Int → List (List Int)
  | 0, _ => []
  | j + 1, m => (if (c || sparseB (l ++ [m])) = true then F (l ++ [m]) else []) ++ allL F c l j (m + 1)
/-- All rulers that begin with some marks, have d marks more, and end at e. -/
def allR (c : Bool) (e : Int) : Nat → List Int → List (List Int)
  | 0, l => if leafB c (l ++ [e]) = true then [l ++ [e]] else []
  | d + 1, l => allL (allR c e d) c l (e - ((d : Int) + 1) - lastOf l).toNat (lastOf l + 1)
theorem allL_len (F : List Int → List (List Int)) (c : Bool) (l : List Int) (P : Nat) (j : Nat) : ∀ m : Int, (∀ i : Int, m ≤ i → i < m + j → (F (l ++ [i])).length ≤ P) → (allL F c l j m).length ≤ j * P := by
  induction j with
  | zero => intro m _; simp [allL]
  | succ j ih =>
    intro m h
    have h1 := h m (by omega) (by omega)
    have h2 := ih (m + 1) (fun i h1 h2 => h i (by omega) (by omega))
    rw [allL, List.length_append, Nat.add_mul]
    split
    · omega
    · simp; omega
theorem allR_len (c : Bool) (e : Int) (he : e ≤ 60) (d : Nat) : ∀ l : List Int, Good l → (allR c e d l).length ≤ 61 ^ d := by
  induction d with
  | zero => intro l _; rw [allR]; split <;> simp
  | succ d ih =>
    intro l h
    have hla := h.last
    rw [allR, Nat.pow_succ, Nat.mul_comm (61 ^ d)]
    have := allL_len (allR c e d) c l (61 ^ d) (e - ((d : Int) + 1) - lastOf l).toNat (lastOf l + 1) (fun i h1 h2 => ih _ (h.snoc (by omega) (by omega)))
    exact Nat.le_trans this (Nat.mul_le_mul_right _ (by omega))
section
variable (c : Bool) (e : Int) (he : e ≤ 60) (d : Nat) (l : List Int) (h : Good l) (hd : d ≤ 60)
include he h hd
theorem search_loop (F : List Int → List (List Int)) (P : Nat) (hF : ∀ m : Int, lastOf l < m → m + (d : Int) < e → (F (l ++ [m])).length ≤ P ∧ Ev (fun k => spec_ruSearch.f k (l ++ [m]) e (d : Int) c) ((F (l ++ [m])).headD [], ((F (l ++ [m])).length : Int))) (j : Nat) :
    ∀ (m : Int) (A : List (List Int)), lastOf l < m → (0 < j → m + j = e - d) → (j = 0 → e < m + (d + 1)) → m ≤ 1000 → A.length + j * P ≤ 9000000000000000000 →
      Ev (fun k => spec_ruSearch.l0 k l e (((d + 1 : Nat)) : Int) c (A.headD []) (A.length : Int) m) ((A ++ allL F c l j m).headD [], ((A ++ allL F c l j m).length : Int)) := by
  have hl := h.len
  have hla := h.last
  have e1 : wrap64 (((d + 1 : Nat) : Int) - 1) = (d : Int) := by rw [w64 (by omega) (by omega)]; omega
  induction j with
  | zero =>
    intro m A h1 _ h3 h4 _
    refine Ev.one fun k => ?_
    rw [spec_ruSearch.l0, w64 (x := m + ((d + 1 : Nat) : Int)) (by omega) (by omega), if_neg (by have := h3 rfl; omega), allL, List.append_nil]
  | succ j ih =>
    intro m A h1 h2 _ h4 h5
    have hm := h2 (by omega)
    have hy : Good (l ++ [m]) := h.snoc h1 (by omega)
    have hFm := hF m h1 (by omega)
    have e2 : wrap64 (m + 1) = m + 1 := w64 (by omega) (by omega)
    rw [Nat.add_mul, Nat.one_mul] at h5
    have tail : Ev (fun k => spec_ruSearch.j1 k l e ((d + 1 : Nat) : Int) c (A.headD []) (A.length : Int) m (l ++ [m]) (!(c || sparseB (l ++ [m])))) ((A ++ allL F c l (j + 1) m).headD [], ((A ++ allL F c l (j + 1) m).length : Int)) := by
      rw [allL]
      cases hq : (c || sparseB (l ++ [m])) with
      | false =>
        rw [if_neg (by simp), List.nil_append]
        refine Ev.step (fun k => ?_) (ih (m + 1) A (by omega) (by omega) (by omega) (by omega) (by omega))
        rw [spec_ruSearch.j1, if_pos (by rfl), e2]
      | true =>
        rw [if_pos rfl, ← List.append_assoc]
        have go := ih (m + 1) (A ++ F (l ++ [m])) (by omega) (by omega) (by omega) (by omega) (by rw [List.length_append]; omega)
        refine Ev.step (f := fun k => (spec_ruSearch.f k (l ++ [m]) e (d : Int) c).bind fun bt149 => (if (A.length : Int) = 0 then (spec_ruSearch.l0 k l e ((d + 1 : Nat) : Int) c bt149.1 (wrap64 ((A.length : Int) + bt149.2)) (wrap64 (m + 1))) else (spec_ruSearch.l0 k l e ((d + 1 : Nat) : Int) c (A.headD []) (wrap64 ((A.length : Int) + bt149.2)) (wrap64 (m + 1))))) (fun k => by rw [spec_ruSearch.j1, if_neg (by simp), e1]) (Ev.bind hFm.2 ?_)
        have e3 : wrap64 ((A.length : Int) + ((F (l ++ [m])).length : Int)) = ((A ++ F (l ++ [m])).length : Int) := by rw [List.length_append, w64 (by omega) (by omega)]; rfl
        simp only [e3, e2]
        cases A with
        | nil => exact Ev.if_pos' rfl (by simpa using go)
        | cons a t => exact Ev.if_neg' (by simp; omega) (by simpa using go)
    cases c with
    | true =>
      refine Ev.step (fun k => ?_) tail
      rw [spec_ruSearch.l0, w64 (x := m + ((d + 1 : Nat) : Int)) (by omega) (by omega), if_pos (by omega), ownS_eq l (by omega), Option.bind_some, if_pos (by omega), Option.bind_some, if_pos rfl]
      rfl
    | false =>
      refine Ev.step (f := fun k => (spec_ruSparse.f k (l ++ [m])).bind fun t148 => spec_ruSearch.j1 k l e ((d + 1 : Nat) : Int) false (A.headD []) (A.length : Int) m (l ++ [m]) (!t148)) (fun k => ?_) (Ev.bind (ruSparse_ev _ hy) ?_)
      · rw [spec_ruSearch.l0, w64 (x := m + ((d + 1 : Nat) : Int)) (by omega) (by omega), if_pos (by omega), ownS_eq l (by omega), Option.bind_some, if_pos (by omega), Option.bind_some, if_neg (by simp)]
      · simpa using tail
end
theorem search_ev (c : Bool) (e : Int) (he : e ≤ 60) (d : Nat) : ∀ l : List Int, Good l → lastOf l < e → d ≤ 9 → Ev (fun k => spec_ruSearch.f k l e (d : Int) c) ((allR c e d l).headD [], ((allR c e d l).length : Int)) := by
  induction d with
  | zero =>
    intro l h hle _
    have hl := h.len
    have hy : Good (l ++ [e]) := h.snoc hle he
    have hwl : (with_ (l ++ [e]) false).length ≤ 1000 := by
      have := pickF_length (times (l ++ [e])) false (lastOf (l ++ [e])).toNat
      have := hy.last
      unfold with_
      omega
    rw [allR]
    cases c with
    | true =>
      refine Ev.step (f := fun k => (spec_ruWith.f k (l ++ [e]) false).bind fun t137 => (if (t137.length : Int) > 0 then (some (([] : List Int), 0)) else (some (l ++ [e], 1)))) (fun k => ?_) (Ev.bind (ruWith_ev _ hy false) ?_)
      · rw [spec_ruSearch.f, if_pos (by rfl), ownS_eq l (by omega), Option.bind_some, if_pos (by omega), Option.bind_some, if_pos rfl]
      · by_cases hw : with_ (l ++ [e]) false = []
        · rw [if_pos (show leafB true (l ++ [e]) = true by unfold leafB; rw [if_pos rfl]; exact decide_eq_true hw)]
          exact Ev.if_neg' (by rw [hw]; simp) (Ev.now _)
        · rw [if_neg (show ¬ leafB true (l ++ [e]) = true by unfold leafB; rw [if_pos rfl, decide_eq_true_eq]; exact hw)]
          exact Ev.if_pos' (by have := List.length_pos_iff.2 hw; omega) (Ev.now _)
    | false =>
      refine Ev.step (f := fun k => (spec_ruSparse.f k (l ++ [e])).bind fun t140 => (if t140 = true then (some (l ++ [e], 1)) else (some (([] : List Int), 0)))) (fun k => ?_) (Ev.bind (ruSparse_ev _ hy) ?_)
      · rw [spec_ruSearch.f, if_pos (by rfl), ownS_eq l (by omega), Option.bind_some, if_pos (by omega), Option.bind_some, if_neg (by simp)]
      · cases hs : sparseB (l ++ [e]) with
        | true =>
          rw [if_pos (show leafB false (l ++ [e]) = true by unfold leafB; rw [if_neg (by simp)]; exact hs)]
          exact Ev.if_pos' rfl (Ev.now _)
        | false =>
          rw [if_neg (show ¬ leafB false (l ++ [e]) = true by unfold leafB; rw [if_neg (by simp), hs]; simp)]
          exact Ev.if_neg' (by simp) (Ev.now _)
  | succ d ih =>
    intro l h hle hd9
    have hl := h.len
    have hla := h.last
    obtain ⟨e1, e2⟩ := rd_last l h
    have hpos := h.pos
    have e3 : wrap64 (lastOf l + 1) = lastOf l + 1 := w64 (by omega) (by omega)
    have hp : 61 ^ d ≤ 61 ^ 8 := Nat.pow_le_pow_right (by omega) (by omega)
    have hP : (61 : Nat) ^ 8 = 191707312997281 := by decide
    have go := search_loop c e he d l h (by omega) (allR c e d) (61 ^ d) (fun m h1 h2 => ⟨allR_len c e he d _ (h.snoc h1 (by omega)), ih _ (h.snoc h1 (by omega)) (by rw [lastOf_snoc]; omega) (by omega)⟩) (e - ((d : Int) + 1) - lastOf l).toNat (lastOf l + 1) [] (by omega) (by omega) (by omega) (by omega)
      (by
        have h1 : (e - ((d : Int) + 1) - lastOf l).toNat * 61 ^ d ≤ 60 * 61 ^ d := Nat.mul_le_mul_right _ (by omega)
        rw [List.length_nil, Nat.zero_add]
        generalize (e - ((d : Int) + 1) - lastOf l).toNat * 61 ^ d = q at h1 ⊢
        omega)
    rw [List.nil_append] at go
    rw [allR]
    refine Ev.step (fun k => ?_) go
    rw [spec_ruSearch.f, if_neg (by omega), e1, if_pos (by omega), if_pos (by omega), e2, e3]
    rfl

end Go.Proofs.Ytlkgojgmgdeieaa.Pure

/- Plain lemmas: which rulers a search finds, and that it finds one. -/
namespace Go.Proofs.Ytlkgojgmgdeieaa.Pure
open Go.RowKit Go.Proofs.Ytlkgojgmgdeieaa.Fc Go.Proofs.YtlkgojgmgdeieaaW.PrintWords Go.Proofs.YtlkgojgmgdeieaaW.PrintLast

theorem allL_mem (F : List Int → List (List Int)) (c : Bool) (l w : List Int) (j : Nat) : ∀ m : Int, w ∈ allL F c l j m → ∃ i : Int, m ≤ i ∧ i < m + j ∧ (c || sparseB (l ++ [i])) = true ∧ w ∈ F (l ++ [i]) := by
  induction j with
  | zero => intro m h; simp [allL] at h
  | succ j ih =>
    intro m h
    rw [allL, List.mem_append] at h
    rcases h with h | h
    · by_cases hq : (c || sparseB (l ++ [m])) = true
      · rw [if_pos hq] at h; exact ⟨m, by omega, by omega, hq, h⟩
      · rw [if_neg hq] at h; cases h
    · obtain ⟨i, h1, h2, h3, h4⟩ := ih (m + 1) h
      exact ⟨i, by omega, by omega, h3, h4⟩
theorem allL_of (F : List Int → List (List Int)) (c : Bool) (l w : List Int) (i : Int) (j : Nat) : ∀ m : Int, m ≤ i → i < m + j → (c || sparseB (l ++ [i])) = true → w ∈ F (l ++ [i]) → w ∈ allL F c l j m := by
  induction j with
  | zero => intro m h1 h2; omega
  | succ j ih =>
    intro m h1 h2 h3 h4
    rw [allL, List.mem_append]
    by_cases hm : m = i
    · subst hm; left; rw [if_pos h3]; exact h4
    · right; exact ih (m + 1) (by omega) (by omega) h3 h4
/-- What a found ruler is. -/
theorem allR_mem (c : Bool) (e : Int) (he : e ≤ 60) (d : Nat) : ∀ (l w : List Int), Good l → lastOf l < e → w ∈ allR c e d l → Good w ∧ w.length = l.length + d + 1 ∧ lastOf w = e ∧ leafB c w = true := by
  induction d with
  | zero =>
    intro l w h hle hw
    rw [allR] at hw
    by_cases hq : leafB c (l ++ [e]) = true
    · rw [if_pos hq] at hw
      obtain rfl : w = l ++ [e] := by simpa using hw
      exact ⟨h.snoc hle he, by simp, lastOf_snoc _ _, hq⟩
    · rw [if_neg hq] at hw; cases hw
  | succ d ih =>
    intro l w h hle hw
    rw [allR] at hw
    obtain ⟨i, h1, h2, _, h4⟩ := allL_mem _ _ _ _ _ _ hw
    obtain ⟨g1, g2, g3, g4⟩ := ih (l ++ [i]) w (h.snoc (by omega) (by omega)) (by rw [lastOf_snoc]; omega) h4
    exact ⟨g1, by rw [g2, List.length_append]; simp; omega, g3, g4⟩
/-- Marks that lead to a ruler. -/
def leads (c : Bool) (e : Int) : List Int → List Int → Bool
  | [], l => leafB c (l ++ [e])
  | m :: t, l => decide (lastOf l < m ∧ m + (t.length + 1) ≤ e) && ((c || sparseB (l ++ [m])) && leads c e t (l ++ [m]))
theorem leads_ne (c : Bool) (e : Int) : ∀ (ms l : List Int), leads c e ms l = true → allR c e ms.length l ≠ []
  | [], l, h => by
    rw [leads] at h
    show allR c e 0 l ≠ []
    rw [allR, if_pos h]
    simp
  | m :: t, l, h => by
    rw [leads, Bool.and_eq_true, Bool.and_eq_true, decide_eq_true_eq] at h
    obtain ⟨⟨h1, h2⟩, h3, h4⟩ := h
    have ih := leads_ne c e t (l ++ [m]) h4
    obtain ⟨w, hw⟩ := List.exists_mem_of_ne_nil _ ih
    have := allL_of (allR c e t.length) c l w m (e - ((t.length : Int) + 1) - lastOf l).toNat (lastOf l + 1) (by omega) (by omega) h3 hw
    rw [List.length_cons, allR]
    exact List.ne_nil_of_mem this
/-- A ruler without a length measured twice has no more pairs than its length. -/
theorem sp_two : ∀ l : List Int, 2 * (sp l).length = l.length * (l.length - 1)
  | [] => rfl
  | a :: t => by
    have ih := sp_two t
    rw [sp, List.length_append, List.length_map, List.length_cons, Nat.mul_add, ih, Nat.add_sub_cancel, Nat.add_mul, Nat.one_mul]
    cases t with
    | nil => rfl
    | cons b u =>
      simp only [List.length_cons, Nat.add_sub_cancel]
      rw [Nat.mul_add (u.length + 1) u.length 1]
      omega
theorem sp_up (hi : Int) (hh : hi ≤ 60) : ∀ l : List Int, l.Pairwise (· < ·) → (∀ x ∈ l, 0 ≤ x ∧ x ≤ hi) → ∀ d ∈ sp l, 1 ≤ d ∧ d ≤ hi
  | [], _, _, d, hd => by simp [sp] at hd
  | a :: t, hp, hm, d, hd => by
    rw [sp, List.mem_append] at hd
    rcases hd with hd | hd
    · obtain ⟨b, hb, rfl⟩ := List.mem_map.1 hd
      have h1 := (List.pairwise_cons.1 hp).1 b hb
      have h2 := hm b (by simp [hb])
      have h3 := hm a (by simp)
      rw [w64 (by omega) (by omega)]
      omega
    · exact sp_up hi hh t (List.pairwise_cons.1 hp).2 (fun x hx => hm x (by simp [hx])) d hd
theorem few_values (E : Nat) : ∀ D : List Int, (∀ d ∈ D, 1 ≤ d ∧ d ≤ E) → (∀ d : Int, D.count d ≤ 1) → D.length ≤ E := by
  induction E with
  | zero =>
    intro D h _
    cases D with
    | nil => simp
    | cons a t => have := h a (by simp); omega
  | succ E ih =>
    intro D h1 h2
    have h3 := List.length_eq_countP_add_countP (fun x : Int => x == ((E + 1 : Nat) : Int)) (l := D)
    have h4 := h2 ((E + 1 : Nat) : Int)
    rw [List.count] at h4
    have h5 := ih (D.filter fun x => !(x == ((E + 1 : Nat) : Int))) (fun d hd => by
      obtain ⟨g1, g2⟩ := List.mem_filter.1 hd
      have := h1 d g1
      have : d ≠ ((E + 1 : Nat) : Int) := by simpa using g2
      omega) (fun d => Nat.le_trans (List.Sublist.count_le _ List.filter_sublist) (h2 d))
    rw [← List.countP_eq_length_filter] at h5
    have h6 : List.countP (fun a => decide ¬(a == ((E + 1 : Nat) : Int)) = true) D = List.countP (fun x => !(x == ((E + 1 : Nat) : Int))) D := by
      congr 1
      funext a
      cases (a == ((E + 1 : Nat) : Int)) <;> rfl
    omega
theorem sparse_long (w : List Int) (h : Good w) (hs : sparseB w = true) : (w.length : Int) * (w.length - 1) ≤ 2 * lastOf w := by
  have hl := h.last
  have hp := h.pos
  have h1 := few_values (lastOf w).toNat (sp w) (fun d hd => by
    have := sp_up (lastOf w) hl.2 w h.up (fun x hx => ⟨(h.mem x hx).1, h.le_last x hx⟩) d hd
    omega) (fun d => by have := (sparseB_times w).1 hs d; unfold times at this; omega)
  have h2 := sp_two w
  obtain ⟨n, hn⟩ : ∃ n, w.length = n + 1 := ⟨w.length - 1, by omega⟩
  rw [hn, Nat.add_sub_cancel] at h2
  have h3 : ((n + 1 : Nat) : Int) * (((n + 1 : Nat) : Int) - 1) = ((2 * (sp w).length : Nat) : Int) := by
    rw [h2, Int.natCast_mul, show (((n + 1 : Nat) : Int) - 1) = ((n : Nat) : Int) by omega]
  rw [hn, h3]
  omega

end Go.Proofs.Ytlkgojgmgdeieaa.Pure

/- Plain lemmas: how many bits of a small number are set, by Go's OnesCount64; or, and a shift, of small numbers. -/
namespace Go.Proofs.Ytlkgojgmgdeieaa.Pure
open Go.RowKit Go.Proofs.Ytlkgojgmgdeieaa.Fc Go.Proofs.YtlkgojgmgdeieaaW.PrintWords Go.Proofs.YtlkgojgmgdeieaaW.PrintLast Go.Proofs.YtlkgojgmgdeieaaW.PrintMore

theorem u64_wrap (n : Int) (h0 : 0 ≤ n) (h1 : n < 18446744073709551616) : IntKind.u64.wrap n = n := by
  simp [IntKind.wrap, IntKind.bits, IntKind.signed]; omega
theorem u64_and (a b : Nat) (ha : a < 2 ^ 64) (hb : b < 2 ^ 64) : Go.bits .and .u64 (a : Int) (b : Int) = ((a &&& b : Nat) : Int) :=
  (bits_nat .u64 64 (by decide) (fun n h0 h1 => u64_wrap n h0 (by simpa using h1)) a b ha hb).1
theorem u64_or (a b : Nat) (ha : a < 2 ^ 64) (hb : b < 2 ^ 64) : Go.bits .or .u64 (a : Int) (b : Int) = ((a ||| b : Nat) : Int) :=
  (bits_nat .u64 64 (by decide) (fun n h0 h1 => u64_wrap n h0 (by simpa using h1)) a b ha hb).2
theorem i64_and (a b : Nat) (ha : a < 2 ^ 62) (hb : b < 2 ^ 62) : Go.bits .and .i64 (a : Int) (b : Int) = ((a &&& b : Nat) : Int) :=
  (bits_nat .i64 62 (by decide) (fun n h0 h1 => by rw [IntKind.wrap_i64]; have h2 : n < 4611686018427387904 := (by simpa using h1); omega) a b ha hb).1
theorem land8 (x M : Nat) : x &&& M = ((x % 256) &&& (M % 256)) + 256 * ((x / 256) &&& (M / 256)) := by
  have h1 : (x &&& M) % 2 ^ 8 = (x % 2 ^ 8) &&& (M % 2 ^ 8) := Nat.and_mod_two_pow
  have h2 : (x &&& M) / 2 ^ 8 = (x / 2 ^ 8) &&& (M / 2 ^ 8) := Nat.and_div_two_pow
  have h3 := Nat.mod_add_div (x &&& M) (2 ^ 8)
  rw [h1, h2] at h3
  exact h3.symm
theorem land24 (a b c M m : Nat) (ha : a < 256) (hb : b < 256) (hc : c < 256) (h0 : M % 256 = m) (h1 : M / 256 % 256 = m) (h2 : M / 256 / 256 % 256 = m) :
    (a + 256 * b + 65536 * c) &&& M = (a &&& m) + 256 * (b &&& m) + 65536 * (c &&& m) := by
  rw [land8 (a + 256 * b + 65536 * c) M, show (a + 256 * b + 65536 * c) % 256 = a by omega, show (a + 256 * b + 65536 * c) / 256 = b + 256 * c by omega, h0,
    land8 (b + 256 * c) (M / 256), show (b + 256 * c) % 256 = b by omega, show (b + 256 * c) / 256 = c by omega, h1,
    land8 c (M / 256 / 256), show c % 256 = c by omega, show c / 256 = 0 by omega, h2, Nat.zero_and]
  omega
theorem and127 (U : Nat) (h : U < 2 ^ 62) : Go.bits .and .i64 (U : Int) 127 = ((U % 128 : Nat) : Int) := by
  have h1 := i64_and U 127 h (by decide)
  have h2 : U &&& 127 = U % 128 := Nat.and_two_pow_sub_one_eq_mod U 7
  rw [h2] at h1
  exact h1
def o1 (a : Nat) : Nat := (a / 2 &&& 85) + (a &&& 85)
def o2 (a : Nat) : Nat := (a / 4 &&& 51) + (a &&& 51)
def o3 (a : Nat) : Nat := (a / 16 + a) &&& 15
def pop (n T : Nat) : Nat := (List.range n).countP fun j => T.testBit j
theorem o1_fin : ∀ a : Fin 256, (∀ t : Fin 2, (a.val / 2 + 128 * t.val) &&& 85 = a.val / 2 &&& 85) ∧ o1 a.val < 256 := by decide +kernel
theorem o2_fin : ∀ a : Fin 256, (∀ t : Fin 4, (a.val / 4 + 64 * t.val) &&& 51 = a.val / 4 &&& 51) ∧ o2 a.val < 256 := by decide +kernel
theorem o3_fin : ∀ a : Fin 256, (∀ t : Fin 5, (o2 (o1 a.val) / 16 + 16 * t.val + o2 (o1 a.val)) < 256 ∧ (o2 (o1 a.val) / 16 + 16 * t.val + o2 (o1 a.val)) &&& 15 = o3 (o2 (o1 a.val))) ∧ o2 (o1 a.val) % 16 ≤ 4 ∧ o3 (o2 (o1 a.val)) = pop 8 a.val ∧ pop 8 a.val ≤ 8 := by decide +kernel
theorem pop_split (m n T : Nat) : pop (m + n) T = pop m (T % 2 ^ m) + pop n (T / 2 ^ m) := by
  unfold pop
  rw [List.range_add, List.countP_append, List.countP_map]
  congr 1
  · refine List.countP_congr fun j hj => ?_
    rw [Nat.testBit_mod_two_pow]
    have := List.mem_range.1 hj
    simp [this]
  · refine List.countP_congr fun j _ => ?_
    rw [Nat.testBit_div_two_pow]
    simp [Nat.add_comm]
theorem ones1 (a b c T : Nat) (ha8 : a < 256) (hb8 : b < 256) (hc8 : c < 256) (hTs : T = a + 256 * b + 65536 * c) : (T / 2 &&& 6148914691236517205) + (T &&& 6148914691236517205) = o1 a + 256 * o1 b + 65536 * o1 c := by
  have A1 := (o1_fin ⟨a, ha8⟩).1 ⟨b % 2, by omega⟩
  have B1 := (o1_fin ⟨b, hb8⟩).1 ⟨c % 2, by omega⟩
  have C1 := (o1_fin ⟨c, hc8⟩).1 ⟨0, by omega⟩
  simp only at A1 B1 C1
  have h1 := land24 a b c 6148914691236517205 85 ha8 hb8 hc8 (by decide) (by decide) (by decide)
  have h2 := land24 (a / 2 + 128 * (b % 2)) (b / 2 + 128 * (c % 2)) (c / 2 + 128 * 0) 6148914691236517205 85 (by omega) (by omega) (by omega) (by decide) (by decide) (by decide)
  have h3 : T / 2 = (a / 2 + 128 * (b % 2)) + 256 * (b / 2 + 128 * (c % 2)) + 65536 * (c / 2 + 128 * 0) := by omega
  rw [h3, h2, hTs, h1, A1, B1, C1]
  unfold o1
  omega
theorem ones2 (a b c X : Nat) (ha8 : a < 256) (hb8 : b < 256) (hc8 : c < 256) (hX : X = a + 256 * b + 65536 * c) : (X / 4 &&& 3689348814741910323) + (X &&& 3689348814741910323) = o2 a + 256 * o2 b + 65536 * o2 c := by
  have A1 := (o2_fin ⟨a, ha8⟩).1 ⟨b % 4, by omega⟩
  have B1 := (o2_fin ⟨b, hb8⟩).1 ⟨c % 4, by omega⟩
  have C1 := (o2_fin ⟨c, hc8⟩).1 ⟨0, by omega⟩
  simp only at A1 B1 C1
  have h1 := land24 a b c 3689348814741910323 51 ha8 hb8 hc8 (by decide) (by decide) (by decide)
  have h2 := land24 (a / 4 + 64 * (b % 4)) (b / 4 + 64 * (c % 4)) (c / 4 + 64 * 0) 3689348814741910323 51 (by omega) (by omega) (by omega) (by decide) (by decide) (by decide)
  have h3 : X / 4 = (a / 4 + 64 * (b % 4)) + 256 * (b / 4 + 64 * (c % 4)) + 65536 * (c / 4 + 64 * 0) := by omega
  rw [h3, h2, hX, h1, A1, B1, C1]
  unfold o2
  omega
theorem ones3 (a b c A B C Y : Nat) (ha8 : a < 256) (hb8 : b < 256) (hc8 : c < 256) (hA : o2 (o1 a) = A) (hB : o2 (o1 b) = B) (hC : o2 (o1 c) = C) (hY : Y = A + 256 * B + 65536 * C) : (Y / 16 + Y) &&& 1085102592571150095 = pop 8 a + 256 * pop 8 b + 65536 * pop 8 c := by
  obtain ⟨A5, A6, A7, A8⟩ := o3_fin ⟨a, ha8⟩
  obtain ⟨B5, B6, B7, B8⟩ := o3_fin ⟨b, hb8⟩
  obtain ⟨C5, C6, C7, C8⟩ := o3_fin ⟨c, hc8⟩
  simp only at A5 A6 A7 A8 B5 B6 B7 B8 C5 C6 C7 C8
  rw [hA] at A5 A6 A7
  rw [hB] at B5 B6 B7
  rw [hC] at C5 C6 C7
  have a5 := A5 ⟨B % 16, by omega⟩
  have b5 := B5 ⟨C % 16, by omega⟩
  have c5 := C5 ⟨0, by omega⟩
  simp only at a5 b5 c5
  have h2 := land24 (A / 16 + 16 * (B % 16) + A) (B / 16 + 16 * (C % 16) + B) (C / 16 + 16 * 0 + C) 1085102592571150095 15 a5.1 b5.1 c5.1 (by decide) (by decide) (by decide)
  have h3 : Y / 16 + Y = (A / 16 + 16 * (B % 16) + A) + 256 * (B / 16 + 16 * (C % 16) + B) + 65536 * (C / 16 + 16 * 0 + C) := by omega
  rw [h3, h2, a5.2, b5.2, c5.2, A7, B7, C7]
theorem i_and (X M r : Nat) (q : Int) (hX : X < 2 ^ 64) (hM : M < 2 ^ 64) (hq : q = ((M : Nat) : Int)) (h : X &&& M = r) : Go.bits .and .u64 (X : Int) q = (r : Int) := by
  rw [hq, u64_and X M hX hM, h]
theorem i_step (X k M r : Nat) (q kk : Int) (hX : X < 2 ^ 40) (hM : M < 2 ^ 64) (hq : q = ((M : Nat) : Int)) (hk : kk = (k : Int)) (hr : r < 2 ^ 60) (h : (X / k &&& M) + (X &&& M) = r) : IntKind.u64.wrap (Go.bits .and .u64 ((X : Int) / kk) q + Go.bits .and .u64 (X : Int) q) = (r : Int) := by
  have hXk : X / k < 2 ^ 64 := Nat.lt_of_le_of_lt (Nat.div_le_self _ _) (by omega)
  have h3 : (X : Int) / kk = ((X / k : Nat) : Int) := by rw [hk]; rfl
  rw [h3, hq, u64_and _ _ hXk hM, u64_and _ _ (by omega) hM]
  have h4 : (((X / k &&& M : Nat) : Int) + ((X &&& M : Nat) : Int)) = (r : Int) := by rw [← h]; rfl
  rw [h4]
  exact u64_wrap _ (by omega) (by omega)
theorem i_add (X k r : Nat) (kk : Int) (hX : X < 2 ^ 40) (hk : kk = (k : Int)) (h : X + X / k = r) : IntKind.u64.wrap ((X : Int) + (X : Int) / kk) = (r : Int) := by
  have hXk : X / k ≤ X := Nat.div_le_self _ _
  have h3 : (X : Int) / kk = ((X / k : Nat) : Int) := by rw [hk]; rfl
  rw [h3, u64_wrap _ (by omega) (by omega)]
  omega
theorem i_add' (X k r : Nat) (kk : Int) (hX : X < 2 ^ 40) (hk : kk = (k : Int)) (h : X / k + X = r) : IntKind.u64.wrap ((X : Int) / kk + (X : Int)) = (r : Int) := by
  have hXk : X / k ≤ X := Nat.div_le_self _ _
  have h3 : (X : Int) / kk = ((X / k : Nat) : Int) := by rw [hk]; rfl
  rw [h3, u64_wrap _ (by omega) (by omega)]
  omega
theorem ones_small (x : Nat) (hx : x < 256) : o1 x < 256 ∧ o2 (o1 x) < 256 ∧ pop 8 x ≤ 8 := by
  have h1 := (o1_fin ⟨x, hx⟩).2
  exact ⟨h1, (o2_fin ⟨o1 x, h1⟩).2, (o3_fin ⟨x, hx⟩).2.2.2⟩
theorem ones_int (T X Y Z V U : Nat) (hT : T < 2 ^ 25) (hX : X < 2 ^ 25) (hY : Y < 2 ^ 25) (hZ : Z < 2 ^ 25) (hV : V < 2 ^ 25) (hU : U < 2 ^ 25) (e1 : (T / 2 &&& 6148914691236517205) + (T &&& 6148914691236517205) = X)
    (e2 : (X / 4 &&& 3689348814741910323) + (X &&& 3689348814741910323) = Y) (e3 : (Y / 16 + Y) &&& 1085102592571150095 = Z) (e4 : Z + Z / 256 = V) (e5 : V + V / 65536 = U) : bits_OnesCount64.f (T : Int) = some ((U % 128 : Nat) : Int) := by
  have b40 : (2 : Nat) ^ 25 < 2 ^ 40 := by decide
  have b60 : (2 : Nat) ^ 25 < 2 ^ 60 := by decide
  have i1 := i_step T 2 6148914691236517205 X 6148914691236517205 2 (Nat.lt_trans hT b40) (by decide) rfl rfl (Nat.lt_trans hX b60) e1
  have i2 := i_step X 4 3689348814741910323 Y 3689348814741910323 4 (Nat.lt_trans hX b40) (by decide) rfl rfl (Nat.lt_trans hY b60) e2
  have i3 := i_add' Y 16 (Y / 16 + Y) 16 (Nat.lt_trans hY b40) rfl rfl
  have i4 := i_and (Y / 16 + Y) 1085102592571150095 Z 1085102592571150095 (by clear e1 e2 e3 i1 i2 i3; omega) (by decide) rfl e3
  have i5 := i_add Z 256 V 256 (Nat.lt_trans hZ b40) rfl e4
  have i6 := i_add V 65536 U 65536 (Nat.lt_trans hV b40) rfl e5
  have i7 := i_add U 4294967296 U 4294967296 (Nat.lt_trans hU b40) rfl (by clear e1 e2 e3 e4 e5 i1 i2 i3 i4 i5 i6; omega)
  have i8 : wrap64 (U : Int) = (U : Int) := w64 (by clear e1 e2 e3 e4 e5 i1 i2 i3 i4 i5 i6 i7; omega) (by clear e1 e2 e3 e4 e5 i1 i2 i3 i4 i5 i6 i7; omega)
  have i9 := and127 U (by clear e1 e2 e3 e4 e5 i1 i2 i3 i4 i5 i6 i7 i8; omega)
  unfold bits_OnesCount64.f
  rw [i1, i2, i3, i4, i5, i6, i7, i8, i9]
/-- Go's count of the bits that are set. -/
theorem ones_eq (T : Nat) (hT : T < 16777216) : bits_OnesCount64.f (T : Int) = some ((pop 24 T : Nat) : Int) := by
  obtain ⟨a, ha⟩ : ∃ a, T % 256 = a := ⟨_, rfl⟩
  obtain ⟨b, hb⟩ : ∃ b, T / 256 % 256 = b := ⟨_, rfl⟩
  obtain ⟨c, hc⟩ : ∃ c, T / 65536 = c := ⟨_, rfl⟩
  have hp : pop 24 T = pop 8 a + pop 8 b + pop 8 c := by
    rw [show (24 : Nat) = 8 + (8 + 8) from rfl, pop_split 8 (8 + 8) T, pop_split 8 8 (T / 2 ^ 8), show T % 2 ^ 8 = a from ha, show T / 2 ^ 8 % 2 ^ 8 = b from hb, show T / 2 ^ 8 / 2 ^ 8 = c by rw [Nat.div_div_eq_div_mul]; exact hc]
    omega
  have ha8 : a < 256 := by omega
  have hb8 : b < 256 := by omega
  have hc8 : c < 256 := by omega
  have hTs : T = a + 256 * b + 65536 * c := by omega
  obtain ⟨A1, A2, A3⟩ := ones_small a ha8
  obtain ⟨B1, B2, B3⟩ := ones_small b hb8
  obtain ⟨C1, C2, C3⟩ := ones_small c hc8
  clear ha hb hc
  have e1 := ones1 a b c T ha8 hb8 hc8 hTs
  obtain ⟨X, hX⟩ : ∃ X, X = o1 a + 256 * o1 b + 65536 * o1 c := ⟨_, rfl⟩
  have e2 := ones2 (o1 a) (o1 b) (o1 c) X A1 B1 C1 hX
  obtain ⟨Y, hY⟩ : ∃ Y, Y = o2 (o1 a) + 256 * o2 (o1 b) + 65536 * o2 (o1 c) := ⟨_, rfl⟩
  have e3 := ones3 a b c _ _ _ Y ha8 hb8 hc8 rfl rfl rfl hY
  rw [← hX] at e1
  rw [← hY] at e2
  have hXs : X < 2 ^ 25 := by omega
  have hYs : Y < 2 ^ 25 := by omega
  clear hX hY A1 B1 C1 A2 B2 C2 hTs
  generalize pop 8 a = P at *
  generalize pop 8 b = Q at *
  generalize pop 8 c = R at *
  obtain ⟨Z, hZ⟩ : ∃ Z, Z = P + 256 * Q + 65536 * R := ⟨_, rfl⟩
  rw [← hZ] at e3
  have hZs : Z < 2 ^ 25 := by omega
  have hV : Z + Z / 256 = (P + Q) + 256 * (Q + R) + 65536 * R := by omega
  obtain ⟨V, hVV⟩ : ∃ V, V = (P + Q) + 256 * (Q + R) + 65536 * R := ⟨_, rfl⟩
  rw [← hVV] at hV
  have hVs : V < 2 ^ 25 := by omega
  have hU : V + V / 65536 = (P + Q + R) + 256 * (Q + R) + 65536 * R := by omega
  obtain ⟨U, hUU⟩ : ∃ U, U = (P + Q + R) + 256 * (Q + R) + 65536 * R := ⟨_, rfl⟩
  rw [← hUU] at hU
  have hUs : U < 2 ^ 25 := by omega
  have h128 : U % 128 = P + Q + R := by omega
  rw [ones_int T X Y Z V U (Nat.lt_trans hT (by decide)) hXs hYs hZs hVs hUs e1 e2 e3 hV hU, h128, hp]

end Go.Proofs.Ytlkgojgmgdeieaa.Pure

/- Plain lemmas: the lengths that marks tell, as bits of a number; a ruler that tells all; how many lengths more marks can tell. -/
namespace Go.Proofs.Ytlkgojgmgdeieaa.Pure
open Go.RowKit Go.Proofs.Ytlkgojgmgdeieaa.Fc Go.Proofs.YtlkgojgmgdeieaaW.PrintWords Go.Proofs.YtlkgojgmgdeieaaW.PrintLast Go.Proofs.YtlkgojgmgdeieaaW.PrintMore

theorem u64_shl (n : Nat) (h : n < 60) : shl .u64 1 (n : Int) = ((2 ^ n : Nat) : Int) := by
  have h1 : (2 : Nat) ^ n < 2 ^ 60 := Nat.pow_lt_pow_right (by omega) h
  have h2 : (1 : Int) * 2 ^ n = ((2 ^ n : Nat) : Int) := by rw [Int.one_mul]; simp
  unfold shl
  rw [Int.toNat_natCast, Nat.min_eq_left (by show n ≤ 64; omega), h2]
  generalize (2 : Nat) ^ n = p at h1 ⊢
  exact u64_wrap _ (by omega) (by omega)
/-- The lengths between marks and one behind them, each as a bit. -/
def maskN (l : List Int) (m : Int) (t0 : Nat) : Nat := l.foldl (fun t x => t ||| 2 ^ (m - x - 1).toNat) t0
theorem mask_bit (m : Int) (j : Nat) : ∀ (l : List Int) (t0 : Nat), (maskN l m t0).testBit j = (t0.testBit j || l.any fun x => (m - x - 1).toNat == j)
  | [], t0 => by simp [maskN]
  | x :: l, t0 => by
    have ih := mask_bit m j l (t0 ||| 2 ^ (m - x - 1).toNat)
    unfold maskN at ih ⊢
    rw [List.foldl_cons, ih, Nat.testBit_or, Nat.testBit_two_pow, List.any_cons, Bool.or_assoc]
    congr 2
theorem mask_lt (l : List Int) (m : Int) (t0 : Nat) (n : Nat) (ht : t0 < 2 ^ n) (hl : ∀ x ∈ l, (m - x - 1).toNat < n) : maskN l m t0 < 2 ^ n := by
  apply Nat.lt_pow_two_of_testBit
  intro i hi
  rw [mask_bit, Nat.testBit_lt_two_pow (Nat.lt_of_lt_of_le ht (Nat.pow_le_pow_right (by omega) hi)), Bool.false_or, List.any_eq_false]
  intro x hx
  have := hl x hx
  simp; omega
theorem diff_loop (l : List Int) (h : Good l) (m : Int) (hm : lastOf l < m) (hm2 : m ≤ 60) (d : Nat) : ∀ i : Nat, l.length - i = d → i ≤ l.length →
    Ev (fun k => impl_differences.l0 k m ((maskN (l.take i) m 0 : Nat) : Int) l (l.length : Int) (i : Int)) ((maskN l m 0 : Nat) : Int) := by
  have hlen := h.len
  induction d with
  | zero =>
    intro i hd hi
    refine Ev.one fun k => ?_
    rw [impl_differences.l0, if_neg (by omega), List.take_of_length_le (by omega)]
  | succ d ih =>
    intro i hd hi
    have hil : i < l.length := by omega
    have hx := h.mem l[i] (List.getElem_mem hil)
    have hxl := h.le_last l[i] (List.getElem_mem hil)
    have w1 : wrap64 (wrap64 (m - l[i]) - 1) = (((m - l[i] - 1).toNat : Nat) : Int) := by rw [w64 (x := m - l[i]) (by omega) (by omega), w64 (by omega) (by omega)]; omega
    have hlt : maskN (l.take i) m 0 < 2 ^ 60 := mask_lt _ _ _ 60 (by decide) (fun x hx' => by
      have h1 := h.mem x (List.mem_of_mem_take hx')
      omega)
    have hpw : (2 : Nat) ^ (m - l[i] - 1).toNat < 2 ^ 60 := Nat.pow_lt_pow_right (by omega) (by omega)
    refine Ev.step (fun k => ?_) (ih (i + 1) (by omega) (by omega))
    rw [impl_differences.l0, if_pos (by omega), if_pos (by omega), if_pos (by omega), rd_eq l i hil, w1, if_pos (by omega), u64_shl _ (by omega), u64_or _ _ (by omega) (by omega), w64 (x := (i : Int) + 1) (by omega) (by omega), List.take_succ_eq_append_getElem hil]
    unfold maskN
    rw [List.foldl_append]
    rfl
theorem diff_ev (l : List Int) (h : Good l) (m : Int) (hm : lastOf l < m) (hm2 : m ≤ 60) : Ev (fun k => impl_differences.f k l m) ((maskN l m 0 : Nat) : Int) := by
  unfold impl_differences.f
  exact diff_loop l h m hm hm2 l.length 0 (by omega) (by omega)
/-- The bits of a number are the lengths that marks tell. -/
def Told (l : List Int) (T : Nat) : Prop := ∀ j : Nat, T.testBit j = decide (0 < times l ((j : Int) + 1))
theorem times_snoc (l : List Int) (m n : Int) : times (l ++ [m]) n = times l n + ((l.map fun b => wrap64 (m - b)).count n : Int) := by
  unfold times
  rw [sp_snoc]
  omega
theorem told_zero : Told [0] 0 := fun j => by
  rw [Nat.zero_testBit, decide_eq_false]
  unfold times
  simp [sp]
theorem in_map (l : List Int) (h : Good l) (m : Int) (hm : lastOf l < m) (hm2 : m ≤ 60) (j : Nat) : ((j : Int) + 1 ∈ l.map fun b => wrap64 (m - b)) ↔ (l.any fun x => (m - x - 1).toNat == j) = true := by
  rw [List.mem_map, List.any_eq_true]
  constructor
  · rintro ⟨x, hx, he⟩
    have h1 := h.mem x hx
    have h2 := h.le_last x hx
    rw [w64 (by omega) (by omega)] at he
    exact ⟨x, hx, by simp; omega⟩
  · rintro ⟨x, hx, he⟩
    have h1 := h.mem x hx
    have h2 := h.le_last x hx
    refine ⟨x, hx, ?_⟩
    rw [w64 (by omega) (by omega)]
    have : (m - x - 1).toNat = j := by simpa using he
    omega
theorem told_step (l : List Int) (h : Good l) (T : Nat) (hT : Told l T) (m : Int) (hm : lastOf l < m) (hm2 : m ≤ 60) : Told (l ++ [m]) (T ||| maskN l m 0) := fun j => by
  rw [Nat.testBit_or, hT j, mask_bit, Nat.zero_testBit, Bool.false_or, times_snoc]
  have h1 := in_map l h m hm hm2 j
  have h0 : 0 ≤ times l ((j : Int) + 1) := by unfold times; omega
  rw [Bool.eq_iff_iff, Bool.or_eq_true, decide_eq_true_iff, decide_eq_true_iff, ← h1, ← List.count_pos_iff]
  omega
theorem told_lt (l : List Int) (h : Good l) (T : Nat) (hT : Told l T) (n : Nat) (hn : lastOf l ≤ n) : T < 2 ^ n := by
  apply Nat.lt_pow_two_of_testBit
  intro i hi
  rw [hT i, times_zero l h _ (by omega)]
  rfl
/-- A ruler of length e tells all lengths: all the low bits are set. -/
theorem told_all (w : List Int) (h : Good w) (T : Nat) (hT : Told w T) (e : Nat) (he : lastOf w = e) : T = 2 ^ e - 1 ↔ with_ w false = [] := by
  have hw : with_ w false = [] ↔ ∀ j : Nat, j < e → 0 < times w ((j : Int) + 1) := by
    unfold with_ pickF
    rw [List.filter_eq_nil_iff, he, Int.toNat_natCast]
    constructor
    · intro hh j hj
      have := hh ((j : Int) + 1) (List.mem_map.2 ⟨j, List.mem_range.2 hj, rfl⟩)
      simpa using this
    · intro hh n hn
      obtain ⟨j, hj, rfl⟩ := List.mem_map.1 hn
      have := hh j (List.mem_range.1 hj)
      simpa using this
  rw [hw]
  constructor
  · rintro rfl j hj
    have := hT j
    rw [Nat.testBit_two_pow_sub_one, decide_eq_true hj] at this
    exact of_decide_eq_true this.symm
  · intro hh
    apply Nat.eq_of_testBit_eq
    intro j
    rw [hT j, Nat.testBit_two_pow_sub_one]
    by_cases hj : j < e
    · rw [decide_eq_true hj, decide_eq_true (hh j hj)]
    · rw [decide_eq_false hj, times_zero w h _ (by omega)]; rfl
/-- How many of the lengths up to e are told. -/
def cnt (l : List Int) (e : Nat) : Nat := (List.range e).countP fun j : Nat => decide (0 < times l ((j : Int) + 1))
theorem countP_one (a : Int) (e : Nat) : (List.range e).countP (fun j : Nat => decide ((j : Int) + 1 = a)) ≤ 1 ∧ ((e : Int) < a → (List.range e).countP (fun j : Nat => decide ((j : Int) + 1 = a)) = 0) := by
  induction e with
  | zero => simp
  | succ e ih =>
    rw [List.range_succ, List.countP_append, List.countP_singleton]
    by_cases h : (e : Int) + 1 = a
    · have := ih.2 (by omega)
      rw [this, if_pos (decide_eq_true h)]
      exact ⟨by omega, fun h2 => by omega⟩
    · rw [if_neg (by rw [decide_eq_false h]; simp)]
      exact ⟨ih.1, fun h2 => ih.2 (by omega)⟩
theorem countP_or (p q : Nat → Bool) : ∀ L : List Nat, L.countP (fun j => p j || q j) ≤ L.countP p + L.countP q
  | [] => by simp
  | x :: L => by
    have ih := countP_or p q L
    rw [List.countP_cons, List.countP_cons, List.countP_cons]
    cases p x <;> cases q x <;> simp <;> omega
theorem countP_mem (e : Nat) : ∀ L : List Int, (List.range e).countP (fun j : Nat => decide ((j : Int) + 1 ∈ L)) ≤ L.length
  | [] => by simp
  | a :: L => by
    have h1 := (countP_one a e).1
    have h2 := countP_mem e L
    have h3 := countP_or (fun j : Nat => decide ((j : Int) + 1 = a)) (fun j : Nat => decide ((j : Int) + 1 ∈ L)) (List.range e)
    have h4 : (List.range e).countP (fun j : Nat => decide ((j : Int) + 1 ∈ a :: L)) = (List.range e).countP (fun j : Nat => decide ((j : Int) + 1 = a) || decide ((j : Int) + 1 ∈ L)) := by
      congr 1
      funext j
      rw [Bool.eq_iff_iff]
      simp
    rw [h4, List.length_cons]
    omega
theorem cnt_snoc (l : List Int) (m : Int) (e : Nat) : cnt (l ++ [m]) e ≤ cnt l e + l.length := by
  have h1 := countP_mem e (l.map fun b => wrap64 (m - b))
  rw [List.length_map] at h1
  have h3 := countP_or (fun j : Nat => decide (0 < times l ((j : Int) + 1))) (fun j : Nat => decide ((j : Int) + 1 ∈ l.map fun b => wrap64 (m - b))) (List.range e)
  have h4 : cnt (l ++ [m]) e = (List.range e).countP (fun j : Nat => decide (0 < times l ((j : Int) + 1)) || decide ((j : Int) + 1 ∈ l.map fun b => wrap64 (m - b))) := by
    unfold cnt
    congr 1
    funext j
    have h0 : 0 ≤ times l ((j : Int) + 1) := by unfold times; omega
    rw [Bool.eq_iff_iff, Bool.or_eq_true, decide_eq_true_iff, decide_eq_true_iff, decide_eq_true_iff, times_snoc, ← List.count_pos_iff]
    omega
  rw [h4]
  unfold cnt
  omega
theorem cnt_all (w : List Int) (e : Nat) (he : lastOf w = e) (hw : with_ w false = []) : cnt w e = e := by
  unfold cnt
  have : (List.range e).countP (fun j : Nat => decide (0 < times w ((j : Int) + 1))) = (List.range e).length := by
    rw [List.countP_eq_length]
    intro j hj
    unfold with_ pickF at hw
    rw [List.filter_eq_nil_iff, he, Int.toNat_natCast] at hw
    have := hw ((j : Int) + 1) (List.mem_map.2 ⟨j, hj, rfl⟩)
    simpa using this
  rw [this, List.length_range]
theorem cnt_mono (l : List Int) (e x : Nat) : cnt l e ≤ cnt l (e + x) := by
  unfold cnt
  rw [List.range_add, List.countP_append]
  omega
theorem pop_told (l : List Int) (T : Nat) (hT : Told l T) (n : Nat) : pop n T = cnt l n := by
  unfold pop cnt
  congr 1
  funext j
  exact hT j
/-- So many lengths can more marks tell, k there being before the first of them. -/
def rooms : Nat → Nat → Nat
  | 0, _ => 0
  | n + 1, k => k + rooms n (k + 1)
theorem rooms_tri (n : Nat) : ∀ k, 2 * rooms n k = n * (2 * k + n - 1) := by
  induction n with
  | zero => intro k; simp [rooms]
  | succ n ih =>
    intro k
    have := ih (k + 1)
    rw [rooms, Nat.mul_add, this, show 2 * (k + 1) + n - 1 = 2 * k + n + 1 by omega, show 2 * k + (n + 1) - 1 = 2 * k + n by omega, Nat.mul_add n (2 * k + n) 1, Nat.add_mul]
    omega
theorem allR_cnt (e : Int) (he : e ≤ 60) (E : Nat) (d : Nat) : ∀ (l w : List Int), Good l → lastOf l < e → w ∈ allR true e d l → cnt w E ≤ cnt l E + rooms (d + 1) l.length := by
  induction d with
  | zero =>
    intro l w _ _ hw
    rw [allR] at hw
    by_cases hq : leafB true (l ++ [e]) = true
    · rw [if_pos hq] at hw
      obtain rfl : w = l ++ [e] := by simpa using hw
      have := cnt_snoc l e E
      simp only [rooms]
      omega
    · rw [if_neg hq] at hw; cases hw
  | succ d ih =>
    intro l w h hle hw
    rw [allR] at hw
    obtain ⟨i, h1, h2, _, h4⟩ := allL_mem _ _ _ _ _ _ hw
    have h5 := ih (l ++ [i]) w (h.snoc (by omega) (by omega)) (by rw [lastOf_snoc]; omega) h4
    have h6 := cnt_snoc l i E
    rw [List.length_append] at h5
    rw [rooms]
    have : rooms (d + 1) (l.length + [i].length) = rooms (d + 1) (l.length + 1) := rfl
    omega
/-- Marks that tell too few: no ruler that begins with them tells all. -/
theorem too_few (e : Nat) (he : e ≤ 60) (d : Nat) (l : List Int) (h : Good l) (hle : lastOf l < e) (hf : cnt l e + rooms (d + 1) l.length < e) : allR true (e : Int) d l = [] := by
  cases hA : allR true (e : Int) d l with
  | nil => rfl
  | cons w t =>
    exfalso
    have hw : w ∈ allR true (e : Int) d l := by rw [hA]; simp
    obtain ⟨_, _, g3, g4⟩ := allR_mem true (e : Int) (by omega) d l w h hle hw
    have h1 := allR_cnt (e : Int) (by omega) e d l w h hle hw
    unfold leafB at g4
    rw [if_pos rfl, decide_eq_true_eq] at g4
    have := cnt_all w e g3 g4
    omega

end Go.Proofs.Ytlkgojgmgdeieaa.Pure

/- Plain lemmas: the program's search for complete rulers finds all that there are, with the fewest marks. -/
namespace Go.Proofs.Ytlkgojgmgdeieaa.Pure
open Go.RowKit Go.Proofs.Ytlkgojgmgdeieaa.Fc Go.Proofs.YtlkgojgmgdeieaaW.PrintWords Go.Proofs.YtlkgojgmgdeieaaW.PrintLast Go.Proofs.YtlkgojgmgdeieaaW.PrintMore

theorem within_eq (a b c : Int) : impl_within.f a b c = some (decide (b ≤ a ∧ a ≤ c)) := by
  unfold impl_within.f
  by_cases h : b ≤ a <;> simp [h]
theorem allL_more (F : List Int → List (List Int)) (c : Bool) (l : List Int) (i : Nat) (j : Nat) : ∀ m : Int, (∀ q : Int, m + j ≤ q → q < m + j + i → F (l ++ [q]) = []) → allL F c l (j + i) m = allL F c l j m := by
  induction j with
  | zero =>
    intro m h
    rw [Nat.zero_add]
    induction i generalizing m with
    | zero => rfl
    | succ i ih =>
      have e : allL F c l (i + 1) m = (if (c || sparseB (l ++ [m])) = true then F (l ++ [m]) else []) ++ allL F c l i (m + 1) := rfl
      rw [e, h m (by omega) (by omega), ih (m + 1) (fun q h1 h2 => h q (by omega) (by omega))]
      simp [allL]
  | succ j ih =>
    intro m h
    rw [show j + 1 + i = (j + i) + 1 by omega, allL, allL, ih (m + 1) (fun q h1 h2 => h q (by omega) (by omega))]
theorem roomF_eq (n : Nat) : ∀ (k : Nat) (acc : Int), 0 ≤ acc → acc + (rooms n k : Int) ≤ 1000000 → impl_completes.roomF n (k : Int) acc = acc + (rooms n k : Int) := by
  induction n with
  | zero => intro k acc _ _; simp [impl_completes.roomF, rooms]
  | succ n ih =>
    intro k acc h0 h1
    rw [rooms] at h1
    have := ih (k + 1) (acc + k) (by omega) (by omega)
    rw [impl_completes.roomF, w64 (by omega) (by omega), rooms, show ((k : Int) + 1) = ((k + 1 : Nat) : Int) by omega, this]
    omega
theorem loop_ev (e : Nat) (alls : Int) (d : Nat) (l : List Int) (T : Nat) (hT : Told l T) (h : Good l) (he : e ≤ 20) (hle : lastOf l < e)
    (ih : ∀ (l : List Int) (T : Nat), Good l → Told l T → lastOf l < e → Ev (fun k => impl_completes.put k (e : Int) alls d l (T : Int)) (allR true (e : Int) d l)) (j : Nat) : ∀ m : Int, lastOf l < m → m + j ≤ e →
    Ev (fun k => impl_completes.loop k (impl_completes.put k (e : Int) alls d) l (T : Int) j m) (allL (allR true (e : Int) d) true l j m) := by
  induction j with
  | zero => intro m _ _; exact Ev.now _
  | succ j ihj =>
    intro m h1 h2
    have hlt : T < 2 ^ 60 := told_lt l h T hT 60 (by omega)
    have hml : maskN l m 0 < 2 ^ 60 := mask_lt _ _ _ 60 (by decide) (fun x hx => by
      have h3 := h.mem x hx
      omega)
    have hb : Go.bits .or .u64 (T : Int) ((maskN l m 0 : Nat) : Int) = ((T ||| maskN l m 0 : Nat) : Int) := u64_or _ _ (by omega) (by omega)
    refine Ev.bind (diff_ev l h m h1 (by omega)) ?_
    rw [hb]
    refine Ev.bind (ih (l ++ [m]) (T ||| maskN l m 0) (h.snoc h1 (by omega)) (told_step l h T hT m h1 (by omega)) (by rw [lastOf_snoc]; omega)) (Ev.bind (ihj (m + 1) (by omega) (by omega)) ?_)
    rw [allL, Bool.true_or, if_pos rfl]
    exact Ev.now _
theorem put_ev (e : Nat) (he : e ≤ 20) (alls : Int) (ha : alls = ((2 ^ e - 1 : Nat) : Int)) (d : Nat) (hd : d ≤ 20) : ∀ (l : List Int) (T : Nat), Good l → Told l T → lastOf l < e → Ev (fun k => impl_completes.put k (e : Int) alls d l (T : Int)) (allR true (e : Int) d l) := by
  induction d with
  | zero =>
    intro l T h hT hle
    have hlen := h.len
    have hpos := h.pos
    have hlt : T < 2 ^ 60 := told_lt l h T hT 60 (by omega)
    have hml : maskN l (e : Int) 0 < 2 ^ 60 := mask_lt _ _ _ 60 (by decide) (fun x hx => by
      have h3 := h.mem x hx
      omega)
    have hb : Go.bits .or .u64 (T : Int) ((maskN l (e : Int) 0 : Nat) : Int) = ((T ||| maskN l (e : Int) 0 : Nat) : Int) := u64_or _ _ (by omega) (by omega)
    have hw := told_all (l ++ [(e : Int)]) (h.snoc hle (by omega)) _ (told_step l h T hT (e : Int) hle (by omega)) e (lastOf_snoc _ _)
    refine Ev.if_pos' (by omega) (Ev.bind (diff_ev l h (e : Int) hle (by omega)) ?_)
    rw [hb, ha, allR]
    by_cases hq : with_ (l ++ [(e : Int)]) false = []
    · rw [if_pos (show leafB true (l ++ [(e : Int)]) = true by unfold leafB; rw [if_pos rfl]; exact decide_eq_true hq)]
      exact Ev.if_pos' (by rw [hw.2 hq]) (Ev.now _)
    · rw [if_neg (show ¬ leafB true (l ++ [(e : Int)]) = true by unfold leafB; rw [if_pos rfl, decide_eq_true_eq]; exact hq)]
      exact Ev.if_neg' (fun hn => hq (hw.1 (by omega))) (Ev.now _)
  | succ d ih =>
    intro l T h hT hle
    have hlen := h.len
    have hpos := h.pos
    have hla := h.last
    have hlt : T < 2 ^ 20 := told_lt l h T hT 20 (by omega)
    have hpop := ones_eq T (by omega)
    rw [pop_told l T hT 24] at hpop
    have htri := rooms_tri (d + 2) l.length
    have hrb : rooms (d + 2) l.length ≤ 10000 := by
      have h1 : (d + 2) * (2 * l.length + (d + 2) - 1) ≤ 22 * 144 := Nat.mul_le_mul (by omega) (by omega)
      omega
    have hroom := roomF_eq (d + 2) l.length 0 (by omega) (by omega)
    have hc24 : cnt l 24 ≤ 24 := by
      have := List.countP_le_length (p := fun j : Nat => decide (0 < times l ((j : Int) + 1))) (l := List.range 24)
      rw [List.length_range] at this
      exact this
    refine Ev.if_pos' (by omega) (Ev.const_bind hpop ?_)
    rw [hroom, Int.zero_add, w64 (by omega) (by omega)]
    by_cases hp : ((cnt l 24 : Nat) : Int) + (rooms (d + 2) l.length : Int) < (e : Int)
    · rw [too_few e (by omega) (d + 1) l h hle (by
        have := cnt_mono l e (24 - e)
        rw [show e + (24 - e) = 24 by omega] at this
        rw [show d + 1 + 1 = d + 2 from rfl]
        omega)]
      exact Ev.if_pos' hp (Ev.now _)
    · have htop : impl_completes.top l = lastOf l := by
        unfold impl_completes.top
        rw [(rd_last l h).1, (rd_last l h).2]
      refine Ev.if_neg' hp ?_
      rw [htop]
      refine Ev.if_pos' (by omega) ?_
      have go := loop_ev e alls d l T hT h he hle (ih (by omega)) ((e : Int) - (lastOf l + 1)).toNat (lastOf l + 1) (by omega) (by omega)
      obtain ⟨x, hx⟩ : ∃ x : Nat, ((e : Int) - (lastOf l + 1)).toNat = ((e : Int) - ((d : Int) + 1) - lastOf l).toNat + x := ⟨((e : Int) - (lastOf l + 1)).toNat - ((e : Int) - ((d : Int) + 1) - lastOf l).toNat, by omega⟩
      have hm := allL_more (allR true (e : Int) d) true l x ((e : Int) - ((d : Int) + 1) - lastOf l).toNat (lastOf l + 1) (fun q h1 h2 => by
        cases d with
        | zero => omega
        | succ d =>
          rw [allR, lastOf_snoc, show ((e : Int) - ((d : Int) + 1) - q).toNat = 0 by omega]
          rfl)
      rw [allR, ← hm, ← hx]
      exact go
/-- In both numbers of rounds. -/
def Ev2 {α : Type} (g : Nat → Nat → Option α) (r : α) : Prop := ∃ N, ∀ K Q, N ≤ K → N ≤ Q → g K Q = some r
theorem good_zero : Good [0] := ⟨by simp, by simp, by simp⟩
theorem last_zero : lastOf [0] = 0 := rfl
theorem cnt_zero (e : Nat) : cnt [0] e = 0 := by
  unfold cnt
  rw [List.countP_eq_zero]
  intro j _
  unfold times
  simp [sp]
theorem comp_loop (e : Nat) (he : 1 ≤ e ∧ e ≤ 20) (alls : Int) (ha : alls = ((2 ^ e - 1 : Nat) : Int)) (n : Nat) : ∀ i : Nat, i + n ≤ 6 → allR true (e : Int) (i + n) [0] ≠ [] →
    ∃ r : List (List Int), r ≠ [] ∧ (∀ w ∈ r, w.length ≤ 100) ∧ r.length ≤ 1000000000000 ∧ Ev (fun k => spec_ruComplete.l0 k (e : Int) (i : Int)) (r.headD [], (r.length : Int)) ∧ Ev2 (fun K Q => impl_completes.l0 K (e : Int) alls Q (i : Int)) r := by
  have one : ∀ i : Nat, i ≤ 6 → (allR true (e : Int) i [0]).length ≤ 1000000000000 ∧ (∀ r, Ev (fun k => spec_ruComplete.l0 k (e : Int) ((i + 1 : Nat) : Int)) r → allR true (e : Int) i [0] = [] → Ev (fun k => spec_ruComplete.l0 k (e : Int) (i : Int)) r) ∧
      (∀ r, Ev2 (fun K Q => impl_completes.l0 K (e : Int) alls Q ((i + 1 : Nat) : Int)) r → allR true (e : Int) i [0] = [] → Ev2 (fun K Q => impl_completes.l0 K (e : Int) alls Q (i : Int)) r) ∧
      (allR true (e : Int) i [0] ≠ [] → Ev (fun k => spec_ruComplete.l0 k (e : Int) (i : Int)) ((allR true (e : Int) i [0]).headD [], ((allR true (e : Int) i [0]).length : Int)) ∧ Ev2 (fun K Q => impl_completes.l0 K (e : Int) alls Q (i : Int)) (allR true (e : Int) i [0])) := by
    intro i hi
    have hs := search_ev true (e : Int) (by omega) i [0] good_zero (by rw [last_zero]; omega) (by omega)
    obtain ⟨N, hN⟩ := put_ev e (by omega) alls ha i (by omega) [0] 0 good_zero told_zero (by rw [last_zero]; omega)
    have hlen : (allR true (e : Int) i [0]).length ≤ 1000000000000 := by
      have h1 := allR_len true (e : Int) (by omega) i [0] good_zero
      have h2 : 61 ^ i ≤ 61 ^ 6 := Nat.pow_le_pow_right (by omega) hi
      have h3 : (61 : Nat) ^ 6 ≤ 1000000000000 := by decide
      omega
    have w1 : wrap64 ((i : Int) + 1) = ((i + 1 : Nat) : Int) := by rw [w64 (by omega) (by omega)]; rfl
    have w2 : wrap64 ((i : Int) + 2) = (i : Int) + 2 := w64 (by omega) (by omega)
    have hmul : ((i : Int) + 2) * ((i + 1 : Nat) : Int) = (((i + 2) * (i + 1) : Nat) : Int) := by rw [Int.natCast_mul]; rfl
    have hmb : (i + 2) * (i + 1) ≤ 8 * 7 := Nat.mul_le_mul (by omega) (by omega)
    have htd : wrap64 (Int.tdiv (wrap64 (((i : Int) + 2) * ((i + 1 : Nat) : Int))) 2) = (((i + 2) * (i + 1) / 2 : Nat) : Int) := by
      rw [hmul, w64 (x := (((i + 2) * (i + 1) : Nat) : Int)) (by omega) (by omega), Int.tdiv_eq_ediv_of_nonneg (by omega), w64 (by omega) (by omega)]
      omega
    have hskip : (((i + 2) * (i + 1) / 2 : Nat) : Int) < (e : Int) → allR true (e : Int) i [0] = [] := fun hlt => too_few e (by omega) i [0] good_zero (by rw [last_zero]; omega) (by
      have := rooms_tri (i + 1) 1
      rw [cnt_zero, show [(0 : Int)].length = 1 from rfl]
      rw [show 2 * 1 + (i + 1) - 1 = i + 2 by omega, Nat.mul_comm (i + 1)] at this
      omega)
    refine ⟨hlen, fun r hr h0 => ?_, fun r hr h0 => ?_, fun h0 => ⟨?_, ?_⟩⟩
    · refine Ev.step (f := fun k => if (((i + 2) * (i + 1) / 2 : Nat) : Int) < (e : Int) then spec_ruComplete.l0 k (e : Int) ((i + 1 : Nat) : Int) else (spec_ruSearch.f k ([0] : List Int) (e : Int) (i : Int) true).bind fun bt156 => (if bt156.2 > 0 then (some (bt156.1, bt156.2)) else (spec_ruComplete.l0 k (e : Int) ((i + 1 : Nat) : Int)))) (fun k => by rw [spec_ruComplete.l0, w1, w2, htd]) ?_
      by_cases hlt : (((i + 2) * (i + 1) / 2 : Nat) : Int) < (e : Int)
      · exact Ev.if_pos' hlt hr
      · refine Ev.if_neg' hlt (Ev.bind hs ?_)
        rw [h0]
        exact Ev.if_neg' (by simp) hr
    · obtain ⟨M, hM⟩ := hr
      refine ⟨max M N + 1, fun K Q h1 h2 => ?_⟩
      obtain ⟨q, rfl⟩ : ∃ q, Q = q + 1 := ⟨Q - 1, by omega⟩
      have hp := hN K (by omega)
      show impl_completes.l0 K (e : Int) alls (q + 1) (i : Int) = _
      rw [impl_completes.l0, if_pos (by omega), Int.toNat_natCast]
      rw [show impl_completes.put K (e : Int) alls i [0] 0 = some (allR true (e : Int) i [0]) from hp, Option.bind_some, if_pos hlen, h0, if_neg (by simp)]
      exact hM K q (by omega) (by omega)
    · refine Ev.step (f := fun k => if (((i + 2) * (i + 1) / 2 : Nat) : Int) < (e : Int) then spec_ruComplete.l0 k (e : Int) ((i + 1 : Nat) : Int) else (spec_ruSearch.f k ([0] : List Int) (e : Int) (i : Int) true).bind fun bt156 => (if bt156.2 > 0 then (some (bt156.1, bt156.2)) else (spec_ruComplete.l0 k (e : Int) ((i + 1 : Nat) : Int)))) (fun k => by rw [spec_ruComplete.l0, w1, w2, htd]) ?_
      refine Ev.if_neg' (fun hlt => h0 (hskip hlt)) (Ev.bind hs ?_)
      exact Ev.if_pos' (by have := List.length_pos_iff.2 h0; show ((allR true (e : Int) i [0]).length : Int) > 0; omega) (Ev.now _)
    · refine ⟨N + 1, fun K Q h1 h2 => ?_⟩
      obtain ⟨q, rfl⟩ : ∃ q, Q = q + 1 := ⟨Q - 1, by omega⟩
      have hp := hN K (by omega)
      show impl_completes.l0 K (e : Int) alls (q + 1) (i : Int) = _
      rw [impl_completes.l0, if_pos (by omega), Int.toNat_natCast]
      rw [show impl_completes.put K (e : Int) alls i [0] 0 = some (allR true (e : Int) i [0]) from hp, Option.bind_some, if_pos hlen, if_pos (List.length_pos_iff.2 h0)]
  have fin : ∀ i : Nat, i ≤ 6 → allR true (e : Int) i [0] ≠ [] → ∃ r : List (List Int), r ≠ [] ∧ (∀ w ∈ r, w.length ≤ 100) ∧ r.length ≤ 1000000000000 ∧ Ev (fun k => spec_ruComplete.l0 k (e : Int) (i : Int)) (r.headD [], (r.length : Int)) ∧ Ev2 (fun K Q => impl_completes.l0 K (e : Int) alls Q (i : Int)) r := fun i hi h0 => by
    obtain ⟨o1, _, _, o4⟩ := one i hi
    obtain ⟨a, b⟩ := o4 h0
    exact ⟨_, h0, fun w hw => by
      have := (allR_mem true (e : Int) (by omega) i [0] w good_zero (by rw [last_zero]; omega) hw).2.1
      rw [this]; simp; omega, o1, a, b⟩
  induction n with
  | zero => intro i h1 h2; exact fin i (by omega) h2
  | succ n ih =>
    intro i h1 h2
    by_cases h0 : allR true (e : Int) i [0] = []
    · obtain ⟨r, g1, g2, g3, g4, g5⟩ := ih (i + 1) (by omega) (by rw [show i + 1 + n = i + (n + 1) by omega]; exact h2)
      obtain ⟨_, o2, o3, _⟩ := one i (by omega)
      exact ⟨r, g1, g2, g3, o2 _ g4 h0, o3 _ g5 h0⟩
    · exact fin i (by omega) h0
theorem all_bits (e : Nat) (he : e ≤ 20) : impl_completes.allF (e : Int) = ((2 ^ e - 1 : Nat) : Int) := by
  have h1 : (2 : Nat) ^ e ≤ 2 ^ 20 := Nat.pow_le_pow_right (by omega) he
  have h2 : 0 < (2 : Nat) ^ e := Nat.pow_pos (by omega)
  have h3 : (2 : Int) ^ e = ((2 ^ e : Nat) : Int) := by simp
  unfold impl_completes.allF
  rw [Int.toNat_natCast, h3]
  generalize (2 : Nat) ^ e = p at h1 h2 ⊢
  rw [u64_wrap (p : Int) (by omega) (by omega), u64_wrap _ (by omega) (by omega)]
  omega
/-- Marks of a complete ruler of each length up to 20. -/
def marksOf : Nat → List Int
  | 1 => []
  | 2 => [1]
  | 3 => [1]
  | 4 => [1, 2]
  | 5 => [1, 2]
  | 6 => [1, 4]
  | 7 => [1, 2, 3]
  | 8 => [1, 2, 5]
  | 9 => [1, 2, 6]
  | 10 => [1, 2, 3, 6]
  | 11 => [1, 2, 3, 7]
  | 12 => [1, 2, 3, 8]
  | 13 => [1, 2, 6, 10]
  | 14 => [1, 2, 3, 4, 9]
  | 15 => [1, 2, 3, 4, 10]
  | 16 => [1, 2, 3, 8, 12]
  | 17 => [1, 2, 3, 8, 13]
  | 18 => [1, 2, 3, 4, 5, 12]
  | 19 => [1, 2, 3, 4, 9, 14]
  | 20 => [1, 2, 3, 4, 10, 15]
  | _ => []
theorem marks_lead : ((List.range 20).all fun i => decide ((marksOf (i + 1)).length ≤ 6) && leads true ((i + 1 : Nat) : Int) (marksOf (i + 1)) [0]) = true := by decide +kernel
theorem complete_ev (a : Int) (h : 1 ≤ a ∧ a ≤ 20) : ∃ r : List (List Int), r ≠ [] ∧ (∀ w ∈ r, w.length ≤ 100) ∧ r.length ≤ 1000000000000 ∧ Ev (fun k => spec_ruComplete.f k a) (r.headD [], (r.length : Int)) ∧ Ev (fun k => impl_completes.f k a) (r, true) := by
  obtain ⟨e, rfl⟩ : ∃ e : Nat, a = e := ⟨a.toNat, by omega⟩
  have hm := List.all_eq_true.1 marks_lead (e - 1) (List.mem_range.2 (by omega))
  rw [show e - 1 + 1 = e by omega, Bool.and_eq_true, decide_eq_true_eq] at hm
  have hne := leads_ne true (e : Int) (marksOf e) [0] hm.2
  obtain ⟨r, g1, g2, g3, g4, N, g5⟩ := comp_loop e (by omega) (impl_completes.allF (e : Int)) (all_bits e (by omega)) (marksOf e).length 0 (by omega) (by rw [Nat.zero_add]; exact hne)
  refine ⟨r, g1, g2, g3, g4, ?_⟩
  unfold impl_completes.f
  refine Ev.const_bind (within_eq _ _ _) (Ev.if_pos' (decide_eq_true h) (Ev.if_pos' h ?_))
  refine Ev.bind (g := fun k => impl_completes.l0 k (e : Int) (impl_completes.allF (e : Int)) k 0) ⟨N, fun k hk => g5 k k hk hk⟩ (Ev.now _)
theorem completes_none (a : Int) (h : ¬ (1 ≤ a ∧ a ≤ 20)) : Ev (fun k => impl_completes.f k a) ([], false) := by
  unfold impl_completes.f
  exact Ev.const_bind (within_eq _ _ _) (Ev.if_neg' (by rw [decide_eq_false h]; simp) (Ev.now _))

end Go.Proofs.Ytlkgojgmgdeieaa.Pure
