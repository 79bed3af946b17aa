/- Plain lemmas: how often a ruler measures each length, by the program and by the reference. -/
import Derived.Test.YtlkgojgmgdeieaaRule0
import Derived.Test.YtlkgojgmgdeieaaGx2
import Derived.Test.YtlkgojgmgdeieaaGx9
import Derived.Test.YtlkgojgmgdeieaaGx10
namespace Go.Proofs.Ytlkgojgmgdeieaa.Pure
open Go.RowKit Go.Proofs.Ytlkgojgmgdeieaa.G Go.Proofs.YtlkgojgmgdeieaaW.PrintWords Go.Proofs.YtlkgojgmgdeieaaW.PrintLast

abbrev bump := impl_lengths.M.bump
def tbl (T ds : List Int) : List Int := ds.foldl bump T
theorem bump_length (T : List Int) (d : Int) : (bump T d).length = T.length := impl_lengths.M.bump_length T d
theorem tbl_length (ds : List Int) : ∀ T, (tbl T ds).length = T.length := by
  induction ds with
  | nil => intro T; rfl
  | cons d t ih => intro T; show (tbl (bump T d) t).length = _; rw [ih, bump_length]
theorem bump_rd (T : List Int) (d n : Int) (hd : 0 ≤ d ∧ d < T.length) (hn : 0 ≤ n ∧ n < T.length) (hT : -1 ≤ rd T n ∧ rd T n ≤ 1000000) : rd (bump T d) n = rd T n + (if d = n then 1 else 0) := by
  show (T.set d.toNat (wrap64 (rd T d + 1))).getD n.toNat 0 = _
  have hnl : n.toNat < T.length := by omega
  rw [List.getD_eq_getElem?_getD, List.getElem?_set]
  by_cases h : d = n
  · subst h
    rw [if_pos rfl, if_pos hnl, if_pos rfl, w64 (by omega) (by omega)]; rfl
  · rw [if_neg (by omega), if_neg h, Int.add_zero]; rfl
theorem tbl_rd (n : Int) (ds : List Int) : ∀ (T : List Int), (∀ d ∈ ds, 0 ≤ d ∧ d < T.length) → 0 ≤ n ∧ n < T.length → 0 ≤ rd T n → rd T n + ds.length ≤ 1000000 → rd (tbl T ds) n = rd T n + (ds.count n : Int) := by
  induction ds with
  | nil => intro T _ _ _ _; simp [tbl]
  | cons d t ih =>
    intro T hd hn h0 hT
    simp only [List.length_cons] at hT
    have hb := bump_rd T d n (hd d (by simp)) hn ⟨by omega, by omega⟩
    have h1 : 0 ≤ rd (bump T d) n ∧ rd (bump T d) n ≤ rd T n + 1 := by rw [hb]; split <;> omega
    have := ih (bump T d) (fun x hx => by rw [bump_length]; exact hd x (by simp [hx])) (by rw [bump_length]; exact hn) h1.1 (by omega)
    show rd (tbl (bump T d) t) n = _
    rw [this, hb, List.count_cons]
    by_cases h : d = n
    · subst h; simp; omega
    · have : (d == n) = false := by simpa using h
      rw [this]; simp [h]
theorem rd_zeros (m : Nat) (n : Int) : rd (List.replicate m 0) n = 0 := by
  show (List.replicate m (0 : Int)).getD n.toNat 0 = 0
  rw [List.getD_eq_getElem?_getD, List.getElem?_replicate]
  split <;> rfl
/-- The differences of a list's pairs, each pair's later one less its earlier one. -/
def sp : List Int → List Int
  | [] => []
  | a :: t => t.map (fun b => wrap64 (b - a)) ++ sp t
theorem sp_snoc (d a : Int) : ∀ l : List Int, (sp (l ++ [a])).count d = (sp l).count d + (l.map (fun b => wrap64 (a - b))).count d
  | [] => by simp [sp]
  | b :: t => by
    have ih := sp_snoc d a t
    simp only [List.cons_append, sp, List.map_append, List.map_cons, List.map_nil, List.count_append, List.count_cons, List.count_nil, ih]
    omega
structure Good (l : List Int) : Prop where
  pos : 1 ≤ l.length
  up : l.Pairwise (· < ·)
  mem : ∀ x ∈ l, 0 ≤ x ∧ x ≤ 60
theorem ruler_good {l : List Int} (h : rulerB l = true) : Good l := ⟨by have := ruler_two h; omega, rises_pairwise l (ruler_rises h), ruler_mem h⟩
theorem Good.len {l : List Int} (h : Good l) : l.length ≤ 61 := by
  rcases rises_count l 0 60 h.up h.mem with rfl | h
  · simp
  · omega
theorem Good.last {l : List Int} (h : Good l) : 0 ≤ lastOf l ∧ lastOf l ≤ 60 := by
  have := h.pos
  unfold lastOf
  rw [← rd_nat, rd_eq l _ (by omega)]
  exact h.mem _ (List.getElem_mem _)
theorem Good.le_last {l : List Int} (h : Good l) : ∀ x ∈ l, x ≤ lastOf l := by
  intro x hx
  obtain ⟨i, hi, rfl⟩ := List.mem_iff_getElem.1 hx
  have hp := h.pos
  unfold lastOf
  rw [← rd_nat, rd_eq l _ (by omega)]
  by_cases e : i = l.length - 1
  · subst e; exact Int.le_refl _
  · exact Int.le_of_lt (List.pairwise_iff_getElem.1 h.up i (l.length - 1) hi (by omega) (by omega))
theorem sp_range (hi : Int) (hh : hi ≤ 60) : ∀ l : List Int, l.Pairwise (· < ·) → (∀ x ∈ l, 0 ≤ x ∧ x ≤ hi) → ∀ d ∈ sp l, 0 ≤ d ∧ d ≤ hi
  | [], _, _, d, hd => by simp [sp] at hd
  | a :: t, hp, hm, d, hd => by
    rw [sp, List.mem_append] at hd
    rcases hd with hd | hd
    · obtain ⟨b, hb, rfl⟩ := List.mem_map.1 hd
      have h1 := (List.pairwise_cons.1 hp).1 b hb
      have h2 := hm b (by simp [hb])
      have h3 := hm a (by simp)
      rw [w64 (by omega) (by omega)]
      omega
    · exact sp_range hi hh t (List.pairwise_cons.1 hp).2 (fun x hx => hm x (by simp [hx])) d hd
theorem sp_len : ∀ l : List Int, (sp l).length ≤ l.length * l.length
  | [] => by simp [sp]
  | a :: t => by
    have := sp_len t
    simp only [sp, List.length_append, List.length_map, List.length_cons]
    rw [Nat.mul_add, Nat.add_mul]; omega
theorem Good.sp_len {l : List Int} (h : Good l) : (sp l).length ≤ 3721 := by
  have := Pure.sp_len l
  have hl := h.len
  have : l.length * l.length ≤ 61 * 61 := Nat.mul_le_mul hl hl
  omega
/-- How often a length is measured. -/
def times (l : List Int) (n : Int) : Int := ((sp l).count n : Int)

/-! The reference. -/
theorem ruTimes_inner (l : List Int) (a : Int) (L : List Int) (i : Nat) (r : List Int) (d : Nat) : ∀ (j : Nat) (T : List Int), L.length - j = d → j ≤ L.length → L.length ≤ 1000000 → (∀ b ∈ L.drop j, 0 ≤ wrap64 (b - a) ∧ wrap64 (b - a) < T.length) →
    Ev (fun k => spec_ruTimes.l0 k l (tbl T ((L.drop j).map (fun b => wrap64 (b - a)))) l (l.length : Int) (wrap64 ((i : Int) + 1))) r →
    Ev (fun k => spec_ruTimes.l1 k l T a l (l.length : Int) (i : Int) L (L.length : Int) (j : Int)) r := by
  induction d with
  | zero =>
    intro j T hd hj hL _ h
    rw [List.drop_of_length_le (by omega)] at h
    refine Ev.step (fun k => ?_) h
    rw [spec_ruTimes.l1, if_neg (by omega)]; rfl
  | succ d ih =>
    intro j T hd hj hL hr h
    have hjl : j < L.length := by omega
    rw [List.drop_eq_getElem_cons hjl] at h hr
    have h0 := hr L[j] List.mem_cons_self
    have ih' := ih (j + 1) (bump T (wrap64 (L[j] - a))) (by omega) (by omega) hL (fun b hb => by rw [bump_length]; exact hr b (List.mem_cons_of_mem _ hb)) h
    refine Ev.step (fun k => ?_) ih'
    rw [spec_ruTimes.l1, if_pos (by omega), if_pos (by omega), if_pos (by omega), rd_eq L j hjl, if_pos h0.1, if_pos h0.2, w64 (x := (j : Int) + 1) (by omega) (by omega)]
    rfl
theorem tbl_append (T a b : List Int) : tbl T (a ++ b) = tbl (tbl T a) b := by simp [tbl]
theorem ruTimes_outer (l : List Int) (h : Good l) (d : Nat) : ∀ (i : Nat) (T : List Int), l.length - i = d → i ≤ l.length → (T.length : Int) = lastOf l + 1 →
    Ev (fun k => spec_ruTimes.l0 k l T l (l.length : Int) (i : Int)) (tbl T (sp (l.drop i))) := by
  have hlen := h.len
  induction d with
  | zero =>
    intro i T hd hi hT
    rw [List.drop_of_length_le (by omega)]
    exact Ev.one fun k => by rw [spec_ruTimes.l0, if_neg (by omega)]; rfl
  | succ d ih =>
    intro i T hd hi hT
    have hil : i < l.length := by omega
    have ih' := ih (i + 1) (tbl T ((l.drop (i + 1)).map (fun b => wrap64 (b - l[i])))) (by omega) (by omega) (by rw [tbl_length]; exact hT)
    have e1 : wrap64 ((i : Int) + 1) = ((i + 1 : Nat) : Int) := by rw [w64 (by omega) (by omega)]; rfl
    rw [List.drop_eq_getElem_cons hil, sp, tbl_append]
    refine Ev.step (f := fun k => spec_ruTimes.l1 k l T l[i] l (l.length : Int) (i : Int) (l.drop (i + 1)) ((l.drop (i + 1)).length : Int) ((0 : Nat) : Int)) (fun k => ?_) ?_
    · rw [spec_ruTimes.l0, if_pos (by omega), if_pos (by omega), if_pos (by omega), e1, if_pos (by omega), if_pos (by omega), rd_eq l i hil, Int.toNat_natCast]; rfl
    · refine ruTimes_inner l l[i] (l.drop (i + 1)) i _ _ 0 T rfl (Nat.zero_le _) (by rw [List.length_drop]; omega) (fun b hb => ?_) ?_
      · rw [List.drop_zero] at hb
        obtain ⟨q, hq, rfl⟩ := List.mem_iff_getElem.1 hb
        rw [List.length_drop] at hq
        rw [List.getElem_drop]
        have h1 := List.pairwise_iff_getElem.1 h.up i (i + 1 + q) hil (by omega) (by omega)
        have h2 := h.mem l[i] (List.getElem_mem _)
        have h3 := h.le_last l[i + 1 + q] (List.getElem_mem _)
        have h4 := h.last
        rw [w64 (by omega) (by omega)]
        omega
      · rw [List.drop_zero, e1]; exact ih'
theorem ruTimes_ev (l : List Int) (h : Good l) : ∃ T : List Int, Ev (fun k => spec_ruTimes.f k l) T ∧ (T.length : Int) = lastOf l + 1 ∧ ∀ n : Int, 0 ≤ n → n ≤ lastOf l → rd T n = times l n := by
  have hp := h.pos
  have hl := h.len
  have hla := h.last
  have e1 : wrap64 ((l.length : Int) - 1) = ((l.length - 1 : Nat) : Int) := by rw [w64 (by omega) (by omega)]; omega
  have e2 : rd l ((l.length - 1 : Nat) : Int) = lastOf l := rfl
  refine ⟨tbl (List.replicate (lastOf l + 1).toNat 0) (sp (l.drop 0)), ?_, ?_, ?_⟩
  · unfold spec_ruTimes.f
    rw [e1, e2, w64 (by omega) (by omega)]
    refine Ev.if_pos' (by omega) (Ev.if_pos' (by omega) (Ev.if_pos' (by omega) (Ev.if_pos' (by omega) ?_)))
    exact ruTimes_outer l h l.length 0 _ (by omega) (by omega) (by rw [List.length_replicate]; omega)
  · rw [tbl_length, List.length_replicate]; omega
  · intro n h0 h1
    have hz : rd (List.replicate (lastOf l + 1).toNat 0) n = 0 := rd_zeros _ n
    have hs := h.sp_len
    rw [List.drop_zero, tbl_rd n (sp l) _ (fun d hd => ?_) ⟨h0, by rw [List.length_replicate]; omega⟩ (by rw [hz]; exact Int.le_refl _) (by rw [hz]; omega), hz, Int.zero_add]
    · rfl
    · rw [List.length_replicate]
      have := sp_range (lastOf l) hla.2 l h.up (fun x hx => ⟨(h.mem x hx).1, h.le_last x hx⟩) d hd
      omega
/-! The program. -/
theorem row_eq (a : Int) (bs : List Int) : ∀ T, impl_lengths.M.row a T bs = tbl T (bs.map (fun b => wrap64 (a - b))) := by
  intro T
  unfold impl_lengths.M.row tbl
  rw [List.foldl_map]
def imd (l : List Int) : Nat → List Int
  | 0 => []
  | i + 1 => imd l i ++ (l.take i).map (fun b => wrap64 (rd l (i : Int) - b))
theorem rows_eq (l : List Int) (i : Nat) : impl_lengths.M.rows l i = tbl (List.replicate 61 0) (imd l i) := by
  induction i with
  | zero => rfl
  | succ i ih => rw [impl_lengths.M.rows_succ, ih, row_eq, imd, tbl_append]
theorem imd_count (l : List Int) (d : Int) (i : Nat) : i ≤ l.length → (imd l i).count d = (sp (l.take i)).count d := by
  induction i with
  | zero => intro _; simp [imd, sp]
  | succ i ih =>
    intro hi
    have hil : i < l.length := by omega
    rw [imd, List.count_append, ih (by omega), List.take_succ_eq_append_getElem hil, sp_snoc, rd_eq l i hil]
theorem imd_mem (l : List Int) (d : Int) (i : Nat) (hi : i ≤ l.length) : d ∈ imd l i ↔ d ∈ sp (l.take i) := by
  rw [← List.count_pos_iff, ← List.count_pos_iff, imd_count l d i hi]
theorem imd_len (l : List Int) (i : Nat) : i ≤ 61 → (imd l i).length ≤ i * 61 := by
  induction i with
  | zero => intro _; simp [imd]
  | succ i ih =>
    intro hi
    have := ih (by omega)
    rw [imd, List.length_append, List.length_map, List.length_take]
    omega
theorem ms_times (l : List Int) (h : Good l) (n : Int) (h0 : 0 ≤ n) (h1 : n ≤ 60) : rd (impl_lengths.M.ms l) n = times l n := by
  have hl := h.len
  have hz : rd (List.replicate 61 0) n = 0 := rd_zeros _ n
  have hs := imd_len l l.length hl
  unfold impl_lengths.M.ms
  rw [rows_eq, tbl_rd n (imd l l.length) _ (fun d hd => ?_) ⟨h0, by rw [List.length_replicate]; omega⟩ (by rw [hz]; exact Int.le_refl _) (by rw [hz]; omega), hz, Int.zero_add, imd_count l n _ (Nat.le_refl _), List.take_length]
  · rfl
  · rw [imd_mem l d _ (Nat.le_refl _), List.take_length] at hd
    rw [List.length_replicate]
    have := sp_range 60 (Int.le_refl _) l h.up h.mem d hd
    omega
theorem good_fit (l : List Int) (h : Good l) : impl_lengths.M.fit l := by
  have hl := h.len
  refine ⟨⟨by omega, h.pos⟩, fun i hi j hj => ?_⟩
  rw [rd_eq l i hi, rd_eq l j (by omega)]
  have h1 := List.pairwise_iff_getElem.1 h.up j i (by omega) hi hj
  have h2 := h.mem l[i] (List.getElem_mem _)
  have h3 := h.mem l[j] (List.getElem_mem _)
  rw [w64 (by omega) (by omega)]
  omega
abbrev pick := impl_lengths.M.pick
theorem pick_congr (T T' : List Int) (m : Bool) (k : Nat) (h : ∀ n : Int, 0 < n → n ≤ k → rd T n = rd T' n) : pick T m k = pick T' m k := by
  induction k with
  | zero => rfl
  | succ k ih =>
    show impl_lengths.M.pick _ _ _ = impl_lengths.M.pick _ _ _
    rw [impl_lengths.M.pick_succ, impl_lengths.M.pick_succ, h ((k : Int) + 1) (by omega) (by omega)]
    congr 1
    exact ih (fun n h1 h2 => h n h1 (by omega))
/-- The lengths that are measured, or not. -/
def with_ (l : List Int) (m : Bool) : List Int := pick (impl_lengths.M.ms l) m (lastOf l).toNat
theorem with_len (l : List Int) (h : Good l) (m : Bool) : (with_ l m).length ≤ 60 := by
  have := impl_lengths.M.pick_length (impl_lengths.M.ms l) m (lastOf l).toNat
  have := h.last
  unfold with_
  show (impl_lengths.M.pick _ _ _).length ≤ 60
  omega
theorem lengths_eq (l : List Int) (h : Good l) (m : Bool) : impl_lengths.f l m = some (with_ l m) := by
  have hp := h.pos
  have e : rd l ((l.length : Int) - 1) = lastOf l := by
    have : ((l.length : Int) - 1) = ((l.length - 1 : Nat) : Int) := by omega
    rw [this]; rfl
  unfold impl_lengths.f
  rw [if_pos (good_fit l h), e, if_pos h.last.2]
  rfl
theorem ruWith_loop (T : List Int) (m : Bool) (hT : T.length ≤ 61) (d : Nat) : ∀ i : Nat, T.length - (i + 1) = d → i + 1 ≤ T.length →
    Ev (fun k => spec_ruWith.l0 k m (pick T m i) T (T.length : Int) ((i + 1 : Nat) : Int)) (pick T m (T.length - 1)) := by
  induction d with
  | zero =>
    intro i hd hi
    refine Ev.one fun k => ?_
    rw [spec_ruWith.l0, if_neg (by omega), show i = T.length - 1 by omega]
  | succ d ih =>
    intro i hd hi
    have hil : i + 1 < T.length := by omega
    have h := ih (i + 1) (by omega) (by omega)
    have hpl : (pick T m i).length ≤ i := impl_lengths.M.pick_length T m i
    refine Ev.step (fun k => ?_) h
    have e1 : wrap64 (((i + 1 : Nat) : Int) + 1) = ((i + 1 + 1 : Nat) : Int) := by rw [w64 (by omega) (by omega)]; rfl
    have hps : pick T m (i + 1) = pick T m i ++ (if (decide (0 < rd T ((i : Int) + 1)) == m) = true then [(i : Int) + 1] else []) := impl_lengths.M.pick_succ T m i
    rw [spec_ruWith.l0, if_pos (by omega), if_pos (by omega), if_pos (by omega), if_pos (by omega), e1, hps]
    by_cases hc : (decide (0 < rd T ((i : Int) + 1)) == m) = true
    · rw [if_pos (by simpa using hc), if_pos (by omega), if_pos hc]
      rfl
    · rw [if_neg (by simpa using hc), if_neg hc, List.append_nil]
theorem ruWith_ev (l : List Int) (h : Good l) (m : Bool) : Ev (fun k => spec_ruWith.f k l m) (with_ l m) := by
  obtain ⟨T, hT, hlen, htm⟩ := ruTimes_ev l h
  have hla := h.last
  unfold spec_ruWith.f
  refine Ev.bind hT ?_
  have e : with_ l m = pick T m (T.length - 1) := by
    unfold with_
    rw [show T.length - 1 = (lastOf l).toNat by omega]
    refine pick_congr _ _ m _ fun n h1 h2 => ?_
    rw [ms_times l h n (by omega) (by omega), htm n (by omega) (by omega)]
  rw [e]
  refine Ev.step (fun k => ?_) (ruWith_loop T m (by omega) (T.length - 1) 0 (by omega) (by omega))
  rw [spec_ruWith.l0, if_pos (by omega), if_pos (by omega), if_pos (by omega), if_neg (by omega), w64 (by omega) (by omega)]
  rfl

end Go.Proofs.Ytlkgojgmgdeieaa.Pure
