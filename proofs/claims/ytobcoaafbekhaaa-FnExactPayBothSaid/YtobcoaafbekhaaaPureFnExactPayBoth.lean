/- The program's PayBoth answers as the reference's does, for all lists and every number. -/
import Derived.Test.YtobcoaafbekhaaaPiece0
import Derived.Test.YtobcoaafbekhaaaBSearch
import Derived.Test.YtobcoaafbekhaaaGx13
import Derived.Test.YtobcoaafbekhaaaGx9
import Derived.Test.YtobcoaafbekhaaaGx12
import Derived.Test.YtobcoaafbekhaaaGx11
import Derived.Test.YtobcoaafbekhaaaGx10
import Derived.Test.YtobcoaafbekhaaaGx8
namespace Go.Proofs.Ytobcoaafbekhaaa.Pure
open Go.RowKit Go.Proofs.Ytobcoaafbekhaaa.G Go.Proofs.YtobcoaafbekhaaaW.PrintWords Go.Proofs.YtobcoaafbekhaaaW.PrintLast

theorem ways_same : ∀ k, (∀ a b c d, impl_ways.l0 k a b c d = spec_piWays.l0 k a b c d) ∧ (∀ a b c d e f, impl_ways.l1 k a b c d e f = spec_piWays.l1 k a b c d e f)
  | 0 => ⟨fun _ _ _ _ => by rw [impl_ways.l0, spec_piWays.l0], fun _ _ _ _ _ _ => by rw [impl_ways.l1, spec_piWays.l1]⟩
  | k + 1 => by
    obtain ⟨h0, h1⟩ := ways_same k
    exact ⟨fun a b c d => by rw [impl_ways.l0, spec_piWays.l0]; simp only [h1], fun a b c d e f => by rw [impl_ways.l1, spec_piWays.l1]; simp only [h0, h1]⟩
theorem ways_eq (k : Nat) (l : List Int) : impl_ways.f k l = spec_piWays.f k l := by
  unfold impl_ways.f spec_piWays.f
  simp only [total_eq, (ways_same k).1]

def LenIs (n : Nat) (g : Nat → Option (List Int)) : Prop := ∃ r : List Int, r.length = n ∧ Ev g r
theorem LenIs.step {n : Nat} {g f : Nat → Option (List Int)} (h : ∀ k, g (k + 1) = f k) : LenIs n f → LenIs n g := fun ⟨r, hn, hr⟩ => ⟨r, hn, Ev.step h hr⟩
theorem ways1 (n : Nat) (hn : n ≤ 300000) (l : List Int) (p : Int) (hp : 1 ≤ p ∧ p ≤ 10000) (len i : Int) (next : ∀ t : List Int, t.length = n → LenIs n (fun k => spec_piWays.l0 k t l len (wrap64 (i + 1)))) (d : Nat) :
    ∀ (t : List Int) (x : Int), t.length = n → x < n → -1 ≤ x → (x + 1 - p).toNat = d → LenIs n (fun k => spec_piWays.l1 k t p x l len i) := by
  induction d with
  | zero =>
    intro t x ht hx hx' hd
    refine LenIs.step (fun k => ?_) (next t ht)
    rw [spec_piWays.l1, if_neg (by omega)]
  | succ d ih =>
    intro t x ht hx hx' hd
    have e : wrap64 (x - p) = x - p := w64 (by omega) (by omega)
    refine LenIs.step (fun k => ?_) (ih (t.set x.toNat (wrap64 ((rd t x) + (rd t (x - p))))) (x - 1) (by simpa using ht) (by omega) (by omega) (by omega))
    rw [spec_piWays.l1, if_pos (by omega), if_pos (by omega), if_pos (by omega), e, if_pos (by omega), if_pos (by omega), w64 (x := x - 1) (by omega) (by omega)]
theorem ways0 (n : Nat) (hn : 1 ≤ n ∧ n ≤ 300000) (l : List Int) (hl : l.length ≤ 20) (hb : ∀ x ∈ l, 1 ≤ x ∧ x ≤ 10000) (d : Nat) : ∀ (i : Nat) (t : List Int), l.length - i = d → i ≤ l.length → t.length = n →
    LenIs n (fun k => spec_piWays.l0 k t l (l.length : Int) (i : Int)) := by
  induction d with
  | zero =>
    intro i t hd hi ht
    exact ⟨t, ht, Ev.one fun k => by rw [spec_piWays.l0, if_neg (by omega)]⟩
  | succ d ih =>
    intro i t hd hi ht
    have hil : i < l.length := by omega
    refine LenIs.step (f := fun k => spec_piWays.l1 k t l[i] ((n - 1 : Nat) : Int) l (l.length : Int) (i : Int)) (fun k => ?_) ?_
    · rw [spec_piWays.l0, if_pos (by omega), if_pos (by omega), if_pos (by omega), rd_eq l i hil, ht, w64 (by omega) (by omega)]
      congr 1
      omega
    · refine ways1 n hn.2 l l[i] (hb _ (List.getElem_mem hil)) _ _ (fun t' ht' => ?_) _ t _ ht (by omega) (by omega) rfl
      rw [show wrap64 ((i : Int) + 1) = ((i + 1 : Nat) : Int) by rw [w64 (by omega) (by omega)]; rfl]
      exact ih (i + 1) t' (by omega) (by omega) ht'
theorem piWays_ev (l : List Int) (h : piecesB l = true) : ∃ W : List Int, (W.length : Int) = l.sum + 1 ∧ Ev (fun k => spec_piWays.f k l) W ∧ Ev (fun k => impl_ways.f k l) W := by
  have hs := pieces_sum h
  have hb := pieces_mem h
  have hl := pieces_len h
  have e : wrap64 (l.sum + 1) = ((l.sum.toNat + 1 : Nat) : Int) := by rw [w64 (by omega) (by omega)]; omega
  obtain ⟨W, hW, hE⟩ := ways0 (l.sum.toNat + 1) (by omega) l hl hb l.length 0 ((List.replicate (l.sum.toNat + 1) 0).set (0 : Int).toNat 1) (by omega) (by omega) (by simp)
  have hf : Ev (fun k => spec_piWays.f k l) W := by
    unfold spec_piWays.f
    refine Ev.bind (piSum_ev l (by omega) (fun x hx => by have := hb x hx; omega) (by omega)) ?_
    rw [e, Int.toNat_natCast]
    exact Ev.if_pos' (by omega) (Ev.if_pos' (by omega) (Ev.some_bind (Ev.if_pos' (by simp; omega) hE)))
  exact ⟨W, by omega, hf, Ev.congr (fun k => ways_eq k l) hf⟩

/-- The places from i on (of a table whose places are told from the number s on) where something positive stands. -/
def posFrom : Int → List Int → List Int
  | _, [] => []
  | s, x :: t => if x > 0 then s :: posFrom (s + 1) t else posFrom (s + 1) t
theorem posFrom_cons (s x : Int) (t : List Int) : posFrom s (x :: t) = if x > 0 then s :: posFrom (s + 1) t else posFrom (s + 1) t := rfl
theorem posFrom_length (T : List Int) : ∀ s, (posFrom s T).length ≤ T.length := by
  induction T with
  | nil => intro s; simp [posFrom]
  | cons x t ih =>
    intro s
    have := ih (s + 1)
    rw [posFrom_cons]
    split <;> simp <;> omega
theorem mem_posFrom (T : List Int) : ∀ s v, v ∈ posFrom s T ↔ s ≤ v ∧ v < s + T.length ∧ T.getD (v - s).toNat 0 > 0 := by
  induction T with
  | nil => intro s v; simp [posFrom]
  | cons x t ih =>
    intro s v
    have e : v ∈ posFrom s (x :: t) ↔ (v = s ∧ x > 0) ∨ v ∈ posFrom (s + 1) t := by
      rw [posFrom_cons]
      by_cases hx : x > 0
      · rw [if_pos hx, List.mem_cons]; simp [hx]
      · rw [if_neg hx]; simp [hx]
    rw [e, ih]
    by_cases hv : v = s
    · subst hv
      simp
      omega
    · by_cases h1 : s + 1 ≤ v
      · have e2 : (v - s).toNat = (v - (s + 1)).toNat + 1 := by omega
        rw [e2, List.getD_cons_succ, List.length_cons]
        constructor
        · rintro (⟨h, _⟩ | ⟨_, h2, h3⟩)
          · exact absurd h hv
          · exact ⟨by omega, by omega, h3⟩
        · rintro ⟨_, h2, h3⟩
          exact .inr ⟨h1, by omega, h3⟩
      · constructor
        · rintro (⟨h, _⟩ | ⟨h, _⟩) <;> omega
        · rintro ⟨h, _⟩; omega
theorem posFrom_incr (T : List Int) : ∀ s, Incr (posFrom s T) := by
  induction T with
  | nil => intro s i j _ hj; simp [posFrom] at hj
  | cons x t ih =>
    intro s
    rw [posFrom_cons]
    split
    · intro i j hij hj
      cases j with
      | zero => omega
      | succ j =>
        have hj' : j < (posFrom (s + 1) t).length := by simpa using hj
        cases i with
        | zero =>
          have hm : (posFrom (s + 1) t).getD j 0 ∈ posFrom (s + 1) t := by simp [List.getD, hj']
          have := (mem_posFrom t (s + 1) _).1 hm
          simp only [List.getD_cons_zero, List.getD_cons_succ]
          omega
        | succ i =>
          simp only [List.getD_cons_succ]
          exact ih (s + 1) i j (by omega) hj'
    · exact ih (s + 1)
theorem sums_loop (T : List Int) (hT : T.length ≤ 300000) (d : Nat) : ∀ (i : Nat) (acc : List Int), T.length - i = d → i ≤ T.length → acc.length ≤ i →
    Ev (fun k => impl_sums.l0 k acc T (T.length : Int) (i : Int)) (acc ++ posFrom (i : Int) (T.drop i)) := by
  induction d with
  | zero =>
    intro i acc hd hi ha
    refine Ev.one fun k => ?_
    rw [impl_sums.l0, if_neg (by omega), List.drop_of_length_le (by omega)]
    simp [posFrom]
  | succ d ih =>
    intro i acc hd hi ha
    have hil : i < T.length := by omega
    have w1 : wrap64 ((i : Int) + 1) = ((i + 1 : Nat) : Int) := by rw [w64 (by omega) (by omega)]; rfl
    rw [List.drop_eq_getElem_cons hil, posFrom]
    by_cases hp : T[i] > 0
    · have h := ih (i + 1) (acc ++ [(i : Int)]) (by omega) (by omega) (by simp; omega)
      rw [if_pos hp]
      refine Ev.step (fun k => ?_) (by simpa using h)
      rw [impl_sums.l0, if_pos (by omega), if_pos (by omega), if_pos (by omega), rd_eq T i hil, if_pos hp, if_pos (by omega), w1]
      rfl
    · have h := ih (i + 1) acc (by omega) (by omega) (by omega)
      rw [if_neg hp]
      refine Ev.step (fun k => ?_) (by simpa using h)
      rw [impl_sums.l0, if_pos (by omega), if_pos (by omega), if_pos (by omega), rd_eq T i hil, if_neg hp, w1]
      rfl
/-- The answer: the first sum of the table M at or behind i of which n less stands in the table B. -/
def payAns (M B : List Int) (n : Int) : Nat → Nat → Int × Int × Bool
  | 0, _ => (0, 0, false)
  | d + 1, i => if M.getD i 0 > 0 ∧ (i : Int) - n ∈ posFrom 0 B then ((i : Int), (i : Int) - n, true) else payAns M B n d (i + 1)
theorem spec_pay (M B : List Int) (hM : M.length ≤ 300000) (n : Int) (hn : 0 ≤ n ∧ n ≤ 1000000) (d : Nat) : ∀ i : Nat, M.length - i = d → i ≤ M.length →
    Ev (fun k => spec_PayBoth.l0 k n B M (M.length : Int) (i : Int)) (payAns M B n d i) := by
  induction d with
  | zero =>
    intro i hd hi
    exact Ev.one fun k => by rw [spec_PayBoth.l0, if_neg (by omega)]; rfl
  | succ d ih =>
    intro i hd hi
    have hil : i < M.length := by omega
    have w1 : wrap64 ((i : Int) + 1) = ((i + 1 : Nat) : Int) := by rw [w64 (by omega) (by omega)]; rfl
    have w2 : wrap64 ((i : Int) - n) = (i : Int) - n := w64 (by omega) (by omega)
    have h := ih (i + 1) (by omega) (by omega)
    have hm := mem_posFrom B 0 ((i : Int) - n)
    rw [Int.zero_add, Int.sub_zero] at hm
    unfold payAns
    by_cases h1 : M.getD i 0 > 0
    · by_cases h2 : (i : Int) ≥ n
      · by_cases h3 : (i : Int) - n < (B.length : Int)
        · by_cases h4 : B.getD ((i : Int) - n).toNat 0 > 0
          · rw [if_pos ⟨h1, hm.2 ⟨by omega, h3, h4⟩⟩]
            refine Ev.one fun k => ?_
            rw [spec_PayBoth.l0, if_pos (by omega), if_pos (by omega), if_pos (by omega), rd_nat, if_pos h1, if_pos h2, w2, if_pos h3, if_pos (by omega), if_pos (by unfold rd; exact h4)]
          · rw [if_neg (fun hh => h4 (hm.1 hh.2).2.2)]
            refine Ev.step (fun k => ?_) h
            rw [spec_PayBoth.l0, if_pos (by omega), if_pos (by omega), if_pos (by omega), rd_nat, if_pos h1, if_pos h2, w2, if_pos h3, if_pos (by omega), if_neg (by unfold rd; exact h4), w1]
        · rw [if_neg (fun hh => h3 (hm.1 hh.2).2.1)]
          refine Ev.step (fun k => ?_) h
          rw [spec_PayBoth.l0, if_pos (by omega), if_pos (by omega), if_pos (by omega), rd_nat, if_pos h1, if_pos h2, w2, if_neg h3, w1]
      · rw [if_neg (fun hh => h2 (by have := (hm.1 hh.2).1; omega))]
        refine Ev.step (fun k => ?_) h
        rw [spec_PayBoth.l0, if_pos (by omega), if_pos (by omega), if_pos (by omega), rd_nat, if_pos h1, if_neg h2, w1]
    · rw [if_neg (fun hh => h1 hh.1)]
      refine Ev.step (fun k => ?_) h
      rw [spec_PayBoth.l0, if_pos (by omega), if_pos (by omega), if_pos (by omega), rd_nat, if_neg h1, w1]
/-- By the list of sums. -/
def payBy (B : List Int) (n : Int) : List Int → Int × Int × Bool
  | [] => (0, 0, false)
  | s :: t => if s - n ∈ posFrom 0 B then (s, s - n, true) else payBy B n t
theorem payBy_pos (M B : List Int) (n : Int) (d : Nat) : ∀ i : Nat, M.length - i = d → i ≤ M.length → payBy B n (posFrom (i : Int) (M.drop i)) = payAns M B n d i := by
  induction d with
  | zero => intro i hd hi; rw [List.drop_of_length_le (by omega)]; rfl
  | succ d ih =>
    intro i hd hi
    have hil : i < M.length := by omega
    have h := ih (i + 1) (by omega) (by omega)
    have hg : M.getD i 0 = M[i] := by simp [List.getD, hil]
    rw [List.drop_eq_getElem_cons hil, posFrom, payAns, hg]
    by_cases h1 : M[i] > 0
    · rw [if_pos h1, payBy]
      simp only [h1, true_and]
      rw [← h]
      rfl
    · rw [if_neg h1]
      simp only [h1, false_and, if_false]
      rw [← h]
      rfl
theorem impl_pay (S B : List Int) (hS : S.length ≤ 300000) (hSb : ∀ s ∈ S, 0 ≤ s ∧ s ≤ 300000) (hB : B.length ≤ 300000) (n : Int) (hn : 0 ≤ n ∧ n ≤ 1000000) (d : Nat) : ∀ i : Nat, S.length - i = d → i ≤ S.length →
    Ev (fun k => impl_PayBoth.l0 k n (posFrom 0 B) S (S.length : Int) (i : Int)) (payBy B n (S.drop i)) := by
  induction d with
  | zero =>
    intro i hd hi
    rw [List.drop_of_length_le (by omega)]
    exact Ev.one fun k => by rw [impl_PayBoth.l0, if_neg (by omega)]; rfl
  | succ d ih =>
    intro i hd hi
    have hil : i < S.length := by omega
    have w1 : wrap64 ((i : Int) + 1) = ((i + 1 : Nat) : Int) := by rw [w64 (by omega) (by omega)]; rfl
    have hb := hSb S[i] (List.getElem_mem hil)
    have w2 : wrap64 (S[i] - n) = S[i] - n := w64 (by omega) (by omega)
    obtain ⟨p, hp⟩ := search_ev (posFrom 0 B) (posFrom_incr B 0) (by have := posFrom_length B 0; omega) (S[i] - n)
    rw [List.drop_eq_getElem_cons hil, payBy]
    refine Ev.step (f := fun k => (slices_BinarySearch_int_int.f k (posFrom 0 B) (S[i] - n)).bind fun bt328 => if bt328.2 = true then some (S[i], S[i] - n, true) else impl_PayBoth.l0 k n (posFrom 0 B) S (S.length : Int) ((i + 1 : Nat) : Int)) (fun k => ?_) ?_
    · rw [impl_PayBoth.l0, if_pos (by omega), if_pos (by omega), if_pos (by omega), rd_eq S i hil, w2, w1]
    · refine Ev.bind hp ?_
      by_cases hm : S[i] - n ∈ posFrom 0 B
      · rw [if_pos hm]
        exact Ev.if_pos' (by simp [hm]) (Ev.now _)
      · rw [if_neg hm]
        exact Ev.if_neg' (by simp [hm]) (ih (i + 1) (by omega) (by omega))
def smallB (l : List Int) : Bool := piecesB l && decide (l.sum ≤ 10000)
theorem siSmall_ev (l : List Int) (hl : l.length ≤ 35184372088832) : Ev (fun k => spec_siSmall.f k l) (smallB l) := by
  unfold spec_siSmall.f smallB
  refine Ev.bind (piGood_ev l hl) ?_
  cases h : piecesB l with
  | false => exact Ev.if_neg' (by simp) (Ev.now _)
  | true =>
    have := pieces_sum h
    exact Ev.if_pos' rfl (Ev.bind (piSum_ev l hl (fun x hx => by have := pieces_mem h x hx; omega) (by omega)) (Ev.now _))
theorem areTogether_ev (l : List Int) (hl : l.length ≤ 35184372088832) : Ev (fun k => impl_areTogether.f k l) (smallB l) := by
  unfold impl_areTogether.f smallB
  refine Ev.bind (ArePieces_ev l hl) ?_
  cases h : piecesB l with
  | false => exact Ev.if_neg' (by simp) (Ev.now _)
  | true =>
    have := pieces_sum h
    exact Ev.if_pos' rfl (Ev.bind (total_ev l hl (fun x hx => by have := pieces_mem h x hx; omega) (by omega)) (Ev.now _))
theorem PayBoth_ev (a b : List Int) (n : Int) (ha : a.length ≤ 35184372088832) (hb : b.length ≤ 35184372088832) :
    ∃ r, Ev (fun k => spec_PayBoth.f k a b n) r ∧ Ev (fun k => impl_PayBoth.f k a b n) r := by
  unfold spec_PayBoth.f impl_PayBoth.f
  have no1 : Ev (fun k => spec_PayBoth.j0 k a b n true) (0, 0, false) := Ev.one fun k => by rw [spec_PayBoth.j0, if_pos rfl]
  have no2 : Ev (fun k => impl_PayBoth.j0 k a b n true) (0, 0, false) := Ev.one fun k => by rw [impl_PayBoth.j0, if_pos rfl]
  cases h1 : smallB a with
  | false => exact ⟨_, Ev.bind (siSmall_ev a ha) (Ev.if_neg' (by simp [h1]) no1), Ev.bind (areTogether_ev a ha) (Ev.if_neg' (by simp [h1]) no2)⟩
  | true =>
    cases h2 : smallB b with
    | false => exact ⟨_, Ev.bind (siSmall_ev a ha) (Ev.if_pos' h1 (Ev.bind (siSmall_ev b hb) (Ev.if_neg' (by simp [h2]) no1))), Ev.bind (areTogether_ev a ha) (Ev.if_pos' h1 (Ev.bind (areTogether_ev b hb) (Ev.if_neg' (by simp [h2]) no2)))⟩
    | true =>
      by_cases h3 : 0 ≤ n ∧ n ≤ 1000000
      · simp only [smallB, Bool.and_eq_true, decide_eq_true_eq] at h1 h2
        obtain ⟨M, hM, hM1, hM2⟩ := piWays_ev a h1.1
        obtain ⟨B, hB, hB1, hB2⟩ := piWays_ev b h2.1
        have hsa := pieces_sum h1.1
        have hsb := pieces_sum h2.1
        have sa : smallB a = true := by simp [smallB, h1]
        have sb : smallB b = true := by simp [smallB, h2]
        have e : (!decide (0 ≤ n ∧ n ≤ 1000000)) = false := by rw [decide_eq_true h3]; rfl
        have sumsM : Ev (fun k => impl_sums.f k a) (posFrom 0 M) := by
          unfold impl_sums.f
          exact Ev.bind hM2 (by simpa using sums_loop M (by omega) M.length 0 [] (by omega) (by omega) (by simp))
        have sumsB : Ev (fun k => impl_sums.f k b) (posFrom 0 B) := by
          unfold impl_sums.f
          exact Ev.bind hB2 (by simpa using sums_loop B (by omega) B.length 0 [] (by omega) (by omega) (by simp))
        refine ⟨payAns M B n M.length 0, Ev.bind (siSmall_ev a ha) (Ev.if_pos' sa (Ev.bind (siSmall_ev b hb) (Ev.if_pos' sb (Ev.const_bind (l1In_eq _ _ _) ?_)))),
          Ev.bind (areTogether_ev a ha) (Ev.if_pos' sa (Ev.bind (areTogether_ev b hb) (Ev.if_pos' sb (Ev.const_bind (within_eq _ _ _) ?_))))⟩
        · rw [e]
          refine Ev.step (fun k => by rw [spec_PayBoth.j0, if_neg (by simp)]) ?_
          exact Ev.bind hB1 (Ev.bind hM1 (spec_pay M B (by omega) n h3 M.length 0 (by omega) (by omega)))
        · rw [e]
          refine Ev.step (fun k => by rw [impl_PayBoth.j0, if_neg (by simp)]) ?_
          have hlen := posFrom_length M 0
          have h := impl_pay (posFrom 0 M) B (by omega) (fun s hs => by have := (mem_posFrom M 0 s).1 hs; omega) (by omega) n h3 (posFrom 0 M).length 0 (by omega) (by omega)
          have e2 := payBy_pos M B n M.length 0 (by omega) (by omega)
          simp only [List.drop_zero, Int.natCast_zero] at h e2
          rw [e2] at h
          exact Ev.bind sumsB (Ev.bind sumsM h)
      · have e : (!decide (0 ≤ n ∧ n ≤ 1000000)) = true := by rw [decide_eq_false h3]; rfl
        refine ⟨(0, 0, false), Ev.bind (siSmall_ev a ha) (Ev.if_pos' h1 (Ev.bind (siSmall_ev b hb) (Ev.if_pos' h2 (Ev.const_bind (l1In_eq _ _ _) ?_)))), Ev.bind (areTogether_ev a ha) (Ev.if_pos' h1 (Ev.bind (areTogether_ev b hb) (Ev.if_pos' h2 (Ev.const_bind (within_eq _ _ _) ?_))))⟩
        · rw [e]; exact no1
        · rw [e]; exact no2

theorem FnExactPayBoth : laws_FnExactPayBoth.Pure := by
  intro a b n _ _ _ _ _ _ _
  by_cases h : (a.length : Int) > 1048576
  · exact ⟨0, by unfold laws_FnExactPayBoth.f; rw [if_pos h]⟩
  by_cases h' : (b.length : Int) > 1048576
  · exact ⟨0, by unfold laws_FnExactPayBoth.f; rw [if_neg h, if_pos h']⟩
  have ha : a.length ≤ 35184372088832 := by omega
  have hb : b.length ≤ 35184372088832 := by omega
  obtain ⟨r, hs, hi⟩ := PayBoth_ev a b n ha hb
  apply Ev.rounds
  unfold laws_FnExactPayBoth.f
  refine Ev.if_neg' h (Ev.if_neg' h' (Ev.bind (toIntS_ev a ha) (Ev.bind (toIntS_ev b hb) (Ev.bind hs (Ev.bind (toIntS_ev a ha) (Ev.bind (toIntS_ev b hb) (Ev.bind hi (Ev.if_pos' rfl (Ev.if_pos' rfl ?_)))))))))
  rw [show (r.2.2 != r.2.2) = false by simp]
  refine Ev.step (fun k => by rw [laws_FnExactPayBoth.j0, if_neg (by simp)]) ?_
  exact Ev.bind (toIntS_ev a ha) (Ev.bind (eqIntS_self a ha) (Ev.if_pos' rfl (Ev.bind (toIntS_ev b hb) (Ev.bind (eqIntS_self b hb) (Ev.if_pos' rfl (Ev.now _))))))

end Go.Proofs.Ytobcoaafbekhaaa.Pure
