/- The program's FewestBoth answers as the reference's does, for every list and every number. -/
import Derived.Test.YtobcoaafbekhaaaSfL
import Derived.Test.YtobcoaafbekhaaaSfx8
import Derived.Test.YtobcoaafbekhaaaSfx5
import Derived.Test.YtobcoaafbekhaaaSfx4
namespace Go.Proofs.Ytobcoaafbekhaaa.Pure
open Go.RowKit Go.Proofs.Ytobcoaafbekhaaa.Sf Go.Proofs.YtobcoaafbekhaaaW.PrintWords Go.Proofs.YtobcoaafbekhaaaW.PrintLast
set_option linter.unusedVariables false

/-- The fewest, L at most. -/
def fm (L : Nat) (q : List Int) (v : Int) : Int := ((min (few q v) L : Nat) : Int)
/-- What one value more tells of a place's number. -/
def upd (F : List Int) (S : Nat) (g u : Int) : Int := if 0 ≤ u ∧ u ≤ 2 * (S : Int) then mn g (rd F u + 1) else g
theorem mn_least (a b : Int) : spec_l1Least.f a b = some (mn a b) := by
  unfold spec_l1Least.f mn
  by_cases h : a < b
  · rw [if_pos h, if_neg (by omega)]
  · rw [if_neg h]
    by_cases h2 : b < a
    · rw [if_pos h2]
    · rw [if_neg h2]; congr 1; omega
theorem l3_one (n : Int) (S : Nat) (hS : S ≤ 200000) (F G l : List Int) (hF : F.length = 2 * S + 1) (hFb : ∀ i : Nat, i < F.length → 0 ≤ rd F (i : Int) ∧ rd F (i : Int) ≤ 1000) (hG : G.length = 2 * S + 1) (x len i m : Int) (a : Nat) (ha : a < 2 * S + 1) (Y : List Int) (j : Nat) (hj : j < Y.length) (hj2 : j ≤ 10) (r : Int × Bool)
    (h : Ev (fun k => spec_FewestBoth.l3 k n (S : Int) F x (G.set a (upd F S (rd G (a : Int)) (rd Y (j : Int)))) (a : Int) l len i m (a : Int) Y (Y.length : Int) ((j + 1 : Nat) : Int)) r) :
    Ev (fun k => spec_FewestBoth.l3 k n (S : Int) F x G (a : Int) l len i m (a : Int) Y (Y.length : Int) (j : Int)) r := by
  refine Ev.step (fun k => ?_) h
  have hw : wrap64 ((j : Int) + 1) = ((j + 1 : Nat) : Int) := by rw [w64 (by omega) (by omega)]; rfl
  rw [spec_FewestBoth.l3, if_pos (by omega), if_pos (by omega), if_pos (by omega), w64 (x := 2 * (S : Int)) (by omega) (by omega), l1In_eq, Option.bind_some, hw]
  unfold upd
  by_cases hin : 0 ≤ rd Y (j : Int) ∧ rd Y (j : Int) ≤ 2 * (S : Int)
  · obtain ⟨u, hu⟩ : ∃ u : Nat, rd Y (j : Int) = u := ⟨(rd Y (j : Int)).toNat, by omega⟩
    have hb := hFb u (by omega)
    rw [if_pos hin, if_pos (decide_eq_true hin), if_pos (by omega), if_pos (by omega), if_pos (by omega), if_pos (by omega), mn_least, Option.bind_some, hu, w64 (x := rd F (u : Int) + 1) (by omega) (by omega), Int.toNat_natCast]
  · rw [if_neg hin, if_neg (by rw [decide_eq_false hin]; simp)]
    have : G.set a (rd G (a : Int)) = G := by
      rw [rd_eq G a (by omega)]; simp
    rw [this]
theorem fm_new (L : Nat) (q : List Int) (A : Int) (p : Nat) : mn (mn (fm L q A) (fm L q (A - p) + 1)) (fm L q (A + p) + 1) = fm L ((p : Int) :: q) A := by
  unfold fm
  rw [few]
  generalize few q A = z1
  generalize few q (A - p) = z2
  generalize few q (A + p) = z3
  unfold mn
  split <;> split <;> omega
theorem mn_le (a b : Int) : mn a b ≤ a := by unfold mn; split <;> omega
theorem fm_le (L : Nat) (q : List Int) (v : Int) : fm L q v ≤ L := by unfold fm; omega
theorem upd_fm (S L : Nat) (hL : L ≤ 100) (q : List Int) (hfar : ∀ v, few q v < 1000 → -(S : Int) ≤ v ∧ v ≤ S) (g u : Int) (hg : g ≤ L) : upd (tabI (fm L q) S) S g u = mn g (fm L q (u - S) + 1) := by
  unfold upd
  by_cases hin : 0 ≤ u ∧ u ≤ 2 * (S : Int)
  · obtain ⟨j, rfl⟩ : ∃ j : Nat, u = j := ⟨u.toNat, by omega⟩
    rw [if_pos hin, rd_tabI' _ _ j (by omega)]
  · rw [if_neg hin]
    have h9 : 1000 ≤ few q (u - S) := by
      apply Classical.byContradiction; intro h10
      have := hfar (u - S) (by omega)
      omega
    unfold mn fm
    rw [if_neg (by omega)]
/-- A place's number, both values told. -/
theorem few_set (S p L : Nat) (hL : L ≤ 100) (q : List Int) (hfar : ∀ v, few q v < 1000 → -(S : Int) ≤ v ∧ v ≤ S) (a : Nat) (ha : a < 2 * S + 1) (G : List Int) (hG : G = tabI (fun v => if v < (a : Int) - S then fm L ((p : Int) :: q) v else fm L q v) S) :
    (G.set a (upd (tabI (fm L q) S) S (rd G (a : Int)) ((a : Int) - p))).set a (upd (tabI (fm L q) S) S (rd (G.set a (upd (tabI (fm L q) S) S (rd G (a : Int)) ((a : Int) - p))) (a : Int)) ((a : Int) + p)) = tabI (fun v => if v < ((a + 1 : Nat) : Int) - S then fm L ((p : Int) :: q) v else fm L q v) S := by
  have hGl : a < G.length := by rw [hG, tabI_length]; exact ha
  have e1 : rd G (a : Int) = fm L q ((a : Int) - S) := by rw [hG, rd_tabI' _ _ a ha, if_neg (by omega)]
  have e2 : ∀ y : Int, rd (G.set a y) (a : Int) = y := fun y => by rw [rd_eq _ _ (by simpa using hGl)]; simp
  rw [e2, List.set_set, e1, upd_fm S L hL q hfar _ _ (fm_le L q _), upd_fm S L hL q hfar _ _ (Int.le_trans (mn_le _ _) (fm_le L q _)), show (a : Int) - p - S = (a : Int) - S - p by omega, show (a : Int) + p - S = (a : Int) - S + p by omega, fm_new, hG, tabI_set]
  refine tabI_congr _ _ _ fun v hv1 hv2 => ?_
  show (if v = (a : Int) - S then fm L ((p : Int) :: q) ((a : Int) - S) else (if v < (a : Int) - S then fm L ((p : Int) :: q) v else fm L q v)) = (if v < ((a + 1 : Nat) : Int) - S then fm L ((p : Int) :: q) v else fm L q v)
  by_cases hv : v = (a : Int) - S
  · rw [if_pos hv, if_pos (by omega), hv]
  · rw [if_neg hv]
    by_cases h2 : v < (a : Int) - S
    · rw [if_pos h2, if_pos (by omega)]
    · rw [if_neg h2, if_neg (by omega)]
theorem few_in (n : Int) (l : List Int) (len i : Int) (S p L : Nat) (hS : S ≤ 200000) (hp : 1 ≤ p ∧ p ≤ 10000) (hL : L ≤ 100) (q : List Int) (hfar : ∀ v, few q v < 1000 → -(S : Int) ≤ v ∧ v ≤ S) (r : Int × Bool) (hi : 0 ≤ i ∧ i ≤ 100)
    (h : Ev (fun k => spec_FewestBoth.l1 k n (S : Int) (tabI (fm L ((p : Int) :: q)) S) l len (i + 1)) r) (d : Nat) : ∀ a : Nat, 2 * S + 1 - a = d → a ≤ 2 * S + 1 →
    Ev (fun k => spec_FewestBoth.l2 k n (S : Int) (tabI (fm L q) S) (p : Int) (tabI (fun v => if v < (a : Int) - S then fm L ((p : Int) :: q) v else fm L q v) S) l len i ((2 * S + 1 : Nat) : Int) (a : Int)) r := by
  have hF : (tabI (fm L q) S).length = 2 * S + 1 := tabI_length _ _
  have hFb : ∀ i : Nat, i < (tabI (fm L q) S).length → 0 ≤ rd (tabI (fm L q) S) (i : Int) ∧ rd (tabI (fm L q) S) (i : Int) ≤ 1000 := fun i hi => by
    rw [rd_tabI' _ _ i (by omega)]; unfold fm; omega
  induction d with
  | zero =>
    intro a hd ha
    obtain rfl : a = 2 * S + 1 := by omega
    refine Ev.step (fun k => ?_) h
    have e : tabI (fun v => if v < ((2 * S + 1 : Nat) : Int) - S then fm L ((p : Int) :: q) v else fm L q v) S = tabI (fm L ((p : Int) :: q)) S :=
      tabI_congr _ _ _ fun v _ _ => by show (if _ then _ else _) = _; rw [if_pos (by omega)]
    rw [e, spec_FewestBoth.l2, if_neg (by omega), w64 (x := i + 1) (by omega) (by omega)]
  | succ d ih =>
    intro a hd ha
    have h1 := ih (a + 1) (by omega) (by omega)
    have w1 : wrap64 ((a : Int) - (p : Int)) = (a : Int) - p := w64 (by omega) (by omega)
    have w2 : wrap64 ((a : Int) + (p : Int)) = (a : Int) + p := w64 (by omega) (by omega)
    obtain ⟨G, hG⟩ : ∃ G, G = tabI (fun v => if v < (a : Int) - S then fm L ((p : Int) :: q) v else fm L q v) S := ⟨_, rfl⟩
    have ha' : a < 2 * S + 1 := by omega
    have hlt : (a : Int) < ((2 * S + 1 : Nat) : Int) := by omega
    have hs := few_set S p L hL q hfar a ha' G hG
    have hGl : G.length = 2 * S + 1 := by rw [hG]; exact tabI_length _ _
    obtain ⟨Y, hY⟩ : ∃ Y : List Int, Y = [(a : Int) - p, (a : Int) + p] := ⟨_, rfl⟩
    have y0 : rd Y ((0 : Nat) : Int) = (a : Int) - p := by rw [hY]; rfl
    have y1 : rd Y ((1 : Nat) : Int) = (a : Int) + p := by rw [hY]; rfl
    have hYl : Y.length = 2 := by rw [hY]; rfl
    rw [← y0, ← y1] at hs
    rw [← hG]
    rw [← hs] at h1
    clear hs hG y0 y1
    have wa : wrap64 ((a : Int) + 1) = ((a + 1 : Nat) : Int) := w64 (by omega) (by omega)
    have e2 : Ev (fun k => spec_FewestBoth.l3 k n (S : Int) (tabI (fm L q) S) (p : Int) ((G.set a (upd (tabI (fm L q) S) S (rd G (a : Int)) (rd Y ((0 : Nat) : Int)))).set a (upd (tabI (fm L q) S) S (rd (G.set a (upd (tabI (fm L q) S) S (rd G (a : Int)) (rd Y ((0 : Nat) : Int)))) (a : Int)) (rd Y ((1 : Nat) : Int)))) (a : Int) l len i ((2 * S + 1 : Nat) : Int) (a : Int) Y (Y.length : Int) ((1 + 1 : Nat) : Int)) r := by
      refine Ev.step (fun k => ?_) h1
      rw [spec_FewestBoth.l3, if_neg (by rw [hYl]; omega), wa]
    have e1 := l3_one n S hS (tabI (fm L q) S) (G.set a (upd (tabI (fm L q) S) S (rd G (a : Int)) (rd Y ((0 : Nat) : Int)))) l hF hFb (by rw [List.length_set]; exact hGl) (p : Int) len i ((2 * S + 1 : Nat) : Int) a ha' Y 1 (by rw [hYl]; decide) (by decide) r e2
    have e0 := l3_one n S hS (tabI (fm L q) S) G l hF hFb hGl (p : Int) len i ((2 * S + 1 : Nat) : Int) a ha' Y 0 (by rw [hYl]; decide) (by decide) r e1
    have z0 : ((0 : Nat) : Int) = 0 := rfl
    rw [z0] at e0
    refine Ev.step (fun k => ?_) e0
    rw [spec_FewestBoth.l2, if_pos hlt, w1, w2, Option.bind_some, ← hY]
theorem few_out (n : Int) (l : List Int) (hl : l.length ≤ 12) (hc : ∀ x ∈ l, 1 ≤ x ∧ x ≤ 10000) (S : Nat) (hS : l.sum = (S : Int)) (hS2 : S ≤ 200000) (hn : 0 ≤ n ∧ n ≤ S) (d : Nat) : ∀ i : Nat, l.length - i = d → i ≤ l.length →
    Ev (fun k => spec_FewestBoth.l1 k n (S : Int) (tabI (fm (l.length + 1) (l.take i).reverse) S) l (l.length : Int) (i : Int)) (fm (l.length + 1) l n, true) := by
  induction d with
  | zero =>
    intro i hd hi
    obtain ⟨j, hj⟩ : ∃ j : Nat, (S : Int) + n = j := ⟨(S + n).toNat, by omega⟩
    refine Ev.one fun k => ?_
    rw [spec_FewestBoth.l1, if_neg (by omega), w64 (x := (S : Int) + n) (by omega) (by omega), if_pos (by omega), if_pos (by rw [tabI_length]; omega), hj, rd_tabI' _ _ j (by omega), List.take_of_length_le (by omega), show (j : Int) - (S : Int) = n by omega]
    unfold fm
    rw [few_reverse]
  | succ d ih =>
    intro i hd hi
    have hil : i < l.length := by omega
    have hci := hc l[i] (List.getElem_mem hil)
    obtain ⟨p, hp⟩ : ∃ p : Nat, l[i] = p := ⟨l[i].toNat, by omega⟩
    have htk : (l.take (i + 1)).reverse = (p : Int) :: (l.take i).reverse := by rw [List.take_succ_eq_append_getElem hil, List.reverse_append, hp]; rfl
    have ih1 := ih (i + 1) (by omega) (by omega)
    rw [htk] at ih1
    have hq : ∀ x ∈ (l.take i).reverse, 1 ≤ x ∧ x ≤ 10000 := fun x hx => hc x (List.mem_of_mem_take (List.mem_reverse.1 hx))
    have hfar : ∀ v, few (l.take i).reverse v < 1000 → -(S : Int) ≤ v ∧ v ≤ S := fun v hv => by
      have h0 : 0 < W (l.take i).reverse v := by
        cases hw : W (l.take i).reverse v with
        | zero => have := (few_reach (l.take i).reverse v).2 hw; omega
        | succ m => omega
      have h2 : l.sum = (l.take i).sum + (l.drop i).sum := by rw [← List.sum_append, List.take_append_drop]
      have h4 := sum_nonneg (l.drop i) (fun x hx => by have := hc x (List.mem_of_mem_drop hx); omega)
      have h5 : ((l.take i).reverse).sum = (l.take i).sum := List.sum_reverse _
      have h6 : ¬ (((l.take i).reverse).sum < v ∨ v < - ((l.take i).reverse).sum) := fun hh => by
        have := W_far (l.take i).reverse (fun x hx => by have := hq x hx; omega) v hh
        omega
      omega
    have h1 := few_in n l (l.length : Int) (i : Int) S p (l.length + 1) hS2 (by omega) (by omega) _ hfar _ (by omega) ih1 (2 * S + 1) 0 (by omega) (by omega)
    have e : tabI (fun v => if v < ((0 : Nat) : Int) - S then fm (l.length + 1) ((p : Int) :: (l.take i).reverse) v else fm (l.length + 1) (l.take i).reverse v) S = tabI (fm (l.length + 1) (l.take i).reverse) S :=
      tabI_congr _ _ _ fun v _ _ => by show (if _ then _ else _) = _; rw [if_neg (by omega)]
    rw [e] at h1
    refine Ev.step (fun k => ?_) h1
    rw [spec_FewestBoth.l1, if_pos (by omega), if_pos (by omega), if_pos (by omega), l1Own_eq _ (by rw [tabI_length]; omega), Option.bind_some, rd_eq l i hil, hp, tabI_length]
    rfl
theorem few_fill (n : Int) (l : List Int) (hl : l.length ≤ 12) (S : Nat) (hS2 : S ≤ 200000) (r : Int × Bool)
    (h : Ev (fun k => spec_FewestBoth.l1 k n (S : Int) (tabI (fm (l.length + 1) []) S) l (l.length : Int) ((0 : Nat) : Int)) r) (d : Nat) : ∀ a : Nat, 2 * S + 1 - a = d → a ≤ 2 * S + 1 →
    Ev (fun k => spec_FewestBoth.l0 k l n (S : Int) (tabI (fun v => if v < (a : Int) - S then ((l.length + 1 : Nat) : Int) else 0) S) ((2 * S + 1 : Nat) : Int) (a : Int)) r := by
  induction d with
  | zero =>
    intro a hd ha
    obtain rfl : a = 2 * S + 1 := by omega
    refine Ev.step (fun k => ?_) h
    rw [spec_FewestBoth.l0, if_neg (by omega), if_pos (by omega), if_pos (by rw [tabI_length]; omega), Int.toNat_natCast, tabI_set]
    refine congrArg (fun G => spec_FewestBoth.l1 k n (S : Int) G l (l.length : Int) ((0 : Nat) : Int)) (tabI_congr _ _ _ fun v _ _ => ?_)
    show (if v = (S : Int) - S then (0 : Int) else _) = _
    unfold fm few
    by_cases hv : v = 0
    · subst hv; rw [if_pos (by omega), if_pos rfl]; simp
    · rw [if_neg (by omega), if_pos (by omega), if_neg hv]; omega
  | succ d ih =>
    intro a hd ha
    refine Ev.step (fun k => ?_) (ih (a + 1) (by omega) (by omega))
    have wa : wrap64 ((a : Int) + 1) = ((a + 1 : Nat) : Int) := by rw [w64 (by omega) (by omega)]; rfl
    have wl : wrap64 ((l.length : Int) + 1) = ((l.length + 1 : Nat) : Int) := by rw [w64 (by omega) (by omega)]; rfl
    rw [spec_FewestBoth.l0, if_pos (by omega), if_pos (by omega), if_pos (by rw [tabI_length]; omega), wa, wl, Int.toNat_natCast, tabI_set]
    refine congrArg (fun G => spec_FewestBoth.l0 k l n (S : Int) G ((2 * S + 1 : Nat) : Int) ((a + 1 : Nat) : Int)) (tabI_congr _ _ _ fun v _ _ => ?_)
    show (if v = (a : Int) - S then _ else (if _ then _ else _)) = (if _ then _ else _)
    by_cases hv : v = (a : Int) - S
    · rw [if_pos hv, if_pos (by omega)]
    · rw [if_neg hv]
      by_cases h2 : v < (a : Int) - S
      · rw [if_pos h2, if_pos (by omega)]
      · rw [if_neg h2, if_neg (by omega)]
theorem FewestBoth_ev (l : List Int) (n : Int) (hl : l.length ≤ 35184372088832) : ∃ r, Ev (fun k => spec_FewestBoth.f k l n) r ∧ Ev (fun k => impl_FewestBoth.f k l n) r := by
  unfold spec_FewestBoth.f impl_FewestBoth.f
  cases hq : (fewB l && decide (0 ≤ n ∧ n ≤ 1000000)) with
  | false =>
    refine ⟨(0, false), Ev.bind (siAsked_ev l n hl) (Ev.if_neg' (by rw [hq]; simp) ?_), Ev.bind (isBoth_ev l n hl) (Ev.if_neg' (by rw [hq]; simp) (Ev.now _))⟩
    exact Ev.one fun k => by rw [spec_FewestBoth.j0, if_pos (by decide)]
  | true =>
    have hq2 := hq
    rw [Bool.and_eq_true, decide_eq_true_eq] at hq2
    obtain ⟨hf, hn⟩ := hq2
    obtain ⟨hp, h12⟩ := few_pieces hf
    have hb := pieces_mem hp
    have hs := pieces_sum hp
    obtain ⟨S, hS⟩ : ∃ S : Nat, l.sum = S := ⟨l.sum.toNat, by omega⟩
    have hM := siMake_ev l n hf (by omega)
    have hI : impl_sidesOf.waysTo l 0 n = wayW l n := by rw [waysTo_eq l hf 0 n, List.drop_zero]
    by_cases hw : W l n = 0
    · have hw' : wayW l n = 0 := by unfold wayW; omega
      refine ⟨(0, false), Ev.bind (siAsked_ev l n hl) (Ev.if_pos' hq (Ev.bind hM ?_)), Ev.bind (isBoth_ev l n hl) (Ev.if_pos' hq (Ev.if_pos' ⟨good_few hf, hn⟩ (Ev.if_pos' (by rw [hI]; exact hw') (Ev.now _))))⟩
      rw [hw']
      exact Ev.one fun k => by rw [spec_FewestBoth.j0, if_pos (by decide)]
    · have hw' : ¬ wayW l n = 0 := by unfold wayW; omega
      have hnS := W_far' l hb S hS n (by omega)
      have hfr := (few_reach l n).1 (by omega)
      have hres : rd (impl_sidesOf.tabs l).2 (n + l.sum) = fm (l.length + 1) l n := by
        obtain ⟨j, hj⟩ : ∃ j : Nat, n + (S : Int) = j := ⟨(n + S).toNat, by omega⟩
        rw [side_tabs l (by omega) hb, hS, Int.toNat_natCast, hj, rd_tabI' _ _ j (by omega), show (j : Int) - (S : Int) = n by omega]
        unfold fewT fm
        rw [if_pos (by omega)]; omega
      refine ⟨(fm (l.length + 1) l n, true), Ev.bind (siAsked_ev l n hl) (Ev.if_pos' hq (Ev.bind hM ?_)), Ev.bind (isBoth_ev l n hl) (Ev.if_pos' hq (Ev.if_pos' ⟨good_few hf, hn⟩ (Ev.if_neg' (by rw [hI]; exact hw') (Ev.if_pos' (by omega) ?_))))⟩
      · have hb0 : (wayW l n == 0) = false := by simpa using hw'
        rw [hb0]
        have h0 := few_fill n l h12 S (by omega) _ (few_out n l h12 hb S hS (by omega) (by omega) l.length 0 (by omega) (by omega)) (2 * S + 1) 0 (by omega) (by omega)
        have e : tabI (fun v => if v < ((0 : Nat) : Int) - S then ((l.length + 1 : Nat) : Int) else 0) S = List.replicate (2 * S + 1) 0 := by
          rw [tabI_congr _ (fun _ => (0 : Int)) _ (fun v _ _ => by show (if _ then _ else _) = _; rw [if_neg (by omega)])]
          simp [tabI, List.map_const']
        rw [e] at h0
        have w1 : wrap64 (wrap64 (2 * (S : Int)) + 1) = ((2 * S + 1 : Nat) : Int) := by rw [w64 (x := 2 * (S : Int)) (by omega) (by omega), w64 (by omega) (by omega)]; rfl
        refine Ev.step (fun k => by rw [spec_FewestBoth.j0, if_neg (by simp)]) (Ev.bind (piSum_ev l (by omega) (fun x hx => by have := hb x hx; omega) (by omega)) ?_)
        rw [hS, w1, Int.toNat_natCast]
        refine Ev.if_pos' (by omega) (Ev.if_pos' (by omega) (Ev.some_bind ?_))
        rw [List.length_replicate]
        exact h0
      · rw [hres]
        exact Ev.now _

theorem FnExactFewestBoth : laws_FnExactFewestBoth.Pure := by
  intro l n _ _ _ _
  by_cases h : (l.length : Int) > 1048576
  · exact ⟨0, by unfold laws_FnExactFewestBoth.f; rw [if_pos h]⟩
  have hl : l.length ≤ 35184372088832 := by omega
  obtain ⟨r, hs, hi⟩ := FewestBoth_ev l n hl
  apply Ev.rounds
  unfold laws_FnExactFewestBoth.f
  refine Ev.if_neg' h (Ev.bind (toIntS_ev l hl) (Ev.bind hs (Ev.bind (toIntS_ev l hl) (Ev.bind hi (Ev.if_pos' rfl ?_)))))
  rw [show (r.2 != r.2) = false by simp]
  exact Ev.step (fun k => by rw [laws_FnExactFewestBoth.j0, if_neg (by simp)]) (Ev.bind (toIntS_ev l hl) (Ev.bind (eqIntS_self l hl) (Ev.if_pos' rfl (Ev.now _))))

end Go.Proofs.Ytobcoaafbekhaaa.Pure
