/- The program's FirstBoth answers as the reference's does, for every list and every number. -/
import Derived.Test.YtobcoaafbekhaaaFbL
import Derived.Test.YtobcoaafbekhaaaFbx8
import Derived.Test.YtobcoaafbekhaaaFbx4
import Derived.Test.YtobcoaafbekhaaaFbx7
namespace Go.Proofs.Ytobcoaafbekhaaa.Pure
open Go.RowKit Go.Proofs.Ytobcoaafbekhaaa.Fb Go.Proofs.YtobcoaafbekhaaaW.PrintWords Go.Proofs.YtobcoaafbekhaaaW.PrintLast

theorem str_end (A : List Int) (u : Int) : strOfNums (A ++ [u]) = strOfNums A ++ (⟨#[UInt8.ofNat u.toNat]⟩ : ByteArray) := by
  unfold strOfNums
  apply ByteArray.ext
  rw [ByteArray.data_append]
  simp
theorem str_size (A : List Int) : (strOfNums A).size = A.length := by
  unfold strOfNums
  show Array.size _ = _
  simp
theorem few_drop {l : List Int} (h : fewB l = true) (i : Nat) : fewB (l.drop i) = true := by
  simp only [fewB, piecesB, inB, sortB, Bool.and_eq_true, decide_eq_true_eq, List.all_eq_true] at h ⊢
  obtain ⟨⟨h1, h2, h3⟩, h4⟩ := h
  refine ⟨⟨by rw [List.length_drop]; omega, fun x hx => h2 x (List.mem_of_mem_drop hx), fun j hj => ?_⟩, by rw [List.length_drop]; omega⟩
  rw [List.length_drop] at hj
  have := h3 (i + j) (by omega)
  unfold Asc at this ⊢
  simpa [List.getD_eq_getElem?_getD, Nat.add_assoc] using this
theorem W_pos_cases (p : Int) (t : List Int) (n : Int) (h : 0 < W (p :: t) n) : 0 < W t (n - p) ∨ 0 < W t (n + p) ∨ 0 < W t n := by
  rw [W, stepW] at h; omega
/-- One piece: the first sign with which the rest can still be made. -/
theorem first_loop (l : List Int) (h : fewB l = true) (d : Nat) : ∀ (i : Nat) (n : Int) (acc : List Int), l.length - i = d → i ≤ l.length → acc.length ≤ i → (-1000000 - 10000 * (i : Int) ≤ n ∧ n ≤ 1000000 + 10000 * (i : Int)) → 0 < W (l.drop i) n →
    ∃ r : ByteArray × Bool, Ev (fun k => spec_FirstBoth.l0 k l n (strOfNums acc) l (l.length : Int) (i : Int)) r ∧ Ev (fun k => impl_FirstBoth.l0 k n acc l (l.length : Int) (i : Int)) r := by
  obtain ⟨hp, h12⟩ := few_pieces h
  have hb := pieces_mem hp
  induction d with
  | zero =>
    intro i n acc hd hi ha hn hw
    exact ⟨(strOfNums acc, true), Ev.one fun k => by rw [spec_FirstBoth.l0, if_neg (by omega)], Ev.one fun k => by rw [impl_FirstBoth.l0, if_neg (by omega)]⟩
  | succ d ih =>
    intro i n acc hd hi ha hn hw
    have hil : i < l.length := by omega
    have hx := hb l[i] (List.getElem_mem hil)
    rw [List.drop_eq_getElem_cons hil] at hw
    have hrd : rd l (i : Int) = l[i] := rd_eq l i hil
    have hwi : wrap64 ((i : Int) + 1) = ((i + 1 : Nat) : Int) := by rw [w64 (by omega) (by omega)]; rfl
    generalize l[i] = p at hx hw hrd
    have hf := few_drop h (i + 1)
    have w1 : wrap64 (n - p) = n - p := w64 (by omega) (by omega)
    have w2 : wrap64 (n + p) = n + p := w64 (by omega) (by omega)
    have hs1 := siMake_ev (l.drop (i + 1)) (n - p) hf (by omega)
    have hs2 := siMake_ev (l.drop (i + 1)) (n + p) hf (by omega)
    have hsz : (strOfNums acc).size + 1 ≤ 9223372036854775807 := by rw [str_size]; omega
    have hspec : ∀ (r : ByteArray × Bool) (f : Nat → Option (ByteArray × Bool)), Ev f r → (∀ k, f k = ((spec_siMake.f k (l.drop (i + 1)) (n - p)).bind fun t143 => (if t143 > 0 then (spec_FirstBoth.l0 k l (n - p) (strOfNums acc ++ (⟨#[43]⟩ : ByteArray)) l (l.length : Int) ((i + 1 : Nat) : Int)) else ((spec_siMake.f k (l.drop (i + 1)) (n + p)).bind fun t144 => (if t144 > 0 then (spec_FirstBoth.l0 k l (n + p) (strOfNums acc ++ (⟨#[45]⟩ : ByteArray)) l (l.length : Int) ((i + 1 : Nat) : Int)) else (spec_FirstBoth.l0 k l n (strOfNums acc ++ (⟨#[48]⟩ : ByteArray)) l (l.length : Int) ((i + 1 : Nat) : Int))))))) → Ev (fun k => spec_FirstBoth.l0 k l n (strOfNums acc) l (l.length : Int) (i : Int)) r := by
      intro r f hf he
      refine Ev.step (f := f) (fun k => ?_) hf
      rw [he, spec_FirstBoth.l0, if_pos (by omega), if_pos (by omega), if_pos (by omega), hwi, if_pos (by omega), if_pos (by omega), hrd, w1, w2, Int.toNat_natCast]
      simp only [if_pos hsz]
    have e43 := str_end acc 43
    have e45 := str_end acc 45
    have e48 := str_end acc 48
    -- the program: the signs in turn
    have wy : ∀ m : Int, -3000000 ≤ m → m ≤ 3000000 → impl_FirstBoth.ways l ((i + 1 : Nat) : Int) m = some (wayW (l.drop (i + 1)) m) := fun m h1 h2 => by
      unfold impl_FirstBoth.ways
      rw [if_pos ⟨by omega, by omega, h1, h2⟩, Int.toNat_natCast, waysTo_eq l h (i + 1) m]
    have hal : acc.length < 140737488355328 := by omega
    have o43 : impl_worth.f p 43 = some p := by unfold impl_worth.f; rfl
    have o45 : impl_worth.f p 45 = some (wrap64 (-p)) := by unfold impl_worth.f; rfl
    have o48 : impl_worth.f p 48 = some 0 := by unfold impl_worth.f; rfl
    have w3 : wrap64 (-p) = -p := w64 (by omega) (by omega)
    have w4 : wrap64 (n - -p) = n + p := by rw [w64 (by omega) (by omega)]; omega
    have w5 : wrap64 (n - 0) = n := by rw [w64 (by omega) (by omega)]; omega
    have start : ∀ (r : ByteArray × Bool), Ev (fun k => impl_FirstBoth.l1 k n acc (i : Int) p l (l.length : Int) (i : Int) [43, 45, 48] 3 0) r → Ev (fun k => impl_FirstBoth.l0 k n acc l (l.length : Int) (i : Int)) r := fun r hr =>
      Ev.step (fun k => by rw [impl_FirstBoth.l0, if_pos (by omega), if_pos (by omega), if_pos (by omega), hrd]) hr
    have s1 : ∀ k, impl_FirstBoth.l1 (k + 1) n acc (i : Int) p l (l.length : Int) (i : Int) [43, 45, 48] 3 0 = if wayW (l.drop (i + 1)) (n - p) > 0 then impl_FirstBoth.l0 k (n - p) (acc ++ [43]) l (l.length : Int) ((i + 1 : Nat) : Int) else impl_FirstBoth.l1 k n acc (i : Int) p l (l.length : Int) (i : Int) [43, 45, 48] 3 1 := fun k => by
      rw [impl_FirstBoth.l1, if_pos (by omega), if_pos (by omega), show rd [43, 45, 48] 0 = 43 from rfl, o43, Option.bind_some, hwi, w1, wy _ (by omega) (by omega), Option.bind_some, if_pos hal, show wrap64 (0 + 1) = 1 by unfold wrap64; omega]
    have s2 : ∀ k, impl_FirstBoth.l1 (k + 1) n acc (i : Int) p l (l.length : Int) (i : Int) [43, 45, 48] 3 1 = if wayW (l.drop (i + 1)) (n + p) > 0 then impl_FirstBoth.l0 k (n + p) (acc ++ [45]) l (l.length : Int) ((i + 1 : Nat) : Int) else impl_FirstBoth.l1 k n acc (i : Int) p l (l.length : Int) (i : Int) [43, 45, 48] 3 2 := fun k => by
      rw [impl_FirstBoth.l1, if_pos (by omega), if_pos (by omega), show rd [43, 45, 48] 1 = 45 from rfl, o45, Option.bind_some, hwi, w3, w4, wy _ (by omega) (by omega), Option.bind_some, if_pos hal, show wrap64 (1 + 1) = 2 by unfold wrap64; omega]
    have s3 : ∀ k, impl_FirstBoth.l1 (k + 1) n acc (i : Int) p l (l.length : Int) (i : Int) [43, 45, 48] 3 2 = if wayW (l.drop (i + 1)) n > 0 then impl_FirstBoth.l0 k n (acc ++ [48]) l (l.length : Int) ((i + 1 : Nat) : Int) else impl_FirstBoth.l1 k n acc (i : Int) p l (l.length : Int) (i : Int) [43, 45, 48] 3 3 := fun k => by
      rw [impl_FirstBoth.l1, if_pos (by omega), if_pos (by omega), show rd [43, 45, 48] 2 = 48 from rfl, o48, Option.bind_some, hwi, w5, wy _ (by omega) (by omega), Option.bind_some, if_pos hal, show wrap64 (2 + 1) = 3 by unfold wrap64; omega]
    by_cases c1 : 0 < W (l.drop (i + 1)) (n - p)
    · have g1 : wayW (l.drop (i + 1)) (n - p) > 0 := by unfold wayW; omega
      obtain ⟨r, hr1, hr2⟩ := ih (i + 1) (n - p) (acc ++ [43]) (by omega) (by omega) (by rw [List.length_append]; simp; omega) (by omega) c1
      refine ⟨r, hspec r _ (Ev.bind hs1 (Ev.if_pos' g1 ?_)) (fun k => rfl), start r (Ev.step (fun k => by rw [s1, if_pos g1]) hr2)⟩
      rw [e43] at hr1
      exact hr1
    · have g1 : ¬ wayW (l.drop (i + 1)) (n - p) > 0 := by unfold wayW; omega
      by_cases c2 : 0 < W (l.drop (i + 1)) (n + p)
      · have g2 : wayW (l.drop (i + 1)) (n + p) > 0 := by unfold wayW; omega
        obtain ⟨r, hr1, hr2⟩ := ih (i + 1) (n + p) (acc ++ [45]) (by omega) (by omega) (by rw [List.length_append]; simp; omega) (by omega) c2
        refine ⟨r, hspec r _ (Ev.bind hs1 (Ev.if_neg' g1 (Ev.bind hs2 (Ev.if_pos' g2 ?_)))) (fun k => rfl), start r (Ev.step (fun k => by rw [s1, if_neg g1]) (Ev.step (fun k => by rw [s2, if_pos g2]) hr2))⟩
        rw [e45] at hr1
        exact hr1
      · have g2 : ¬ wayW (l.drop (i + 1)) (n + p) > 0 := by unfold wayW; omega
        have c3 : 0 < W (l.drop (i + 1)) n := by have := W_pos_cases p _ n hw; omega
        have g3 : wayW (l.drop (i + 1)) n > 0 := by unfold wayW; omega
        obtain ⟨r, hr1, hr2⟩ := ih (i + 1) n (acc ++ [48]) (by omega) (by omega) (by rw [List.length_append]; simp; omega) (by omega) c3
        refine ⟨r, hspec r _ (Ev.bind hs1 (Ev.if_neg' g1 (Ev.bind hs2 (Ev.if_neg' g2 ?_)))) (fun k => rfl), start r (Ev.step (fun k => by rw [s1, if_neg g1]) (Ev.step (fun k => by rw [s2, if_neg g2]) (Ev.step (fun k => by rw [s3, if_pos g3]) hr2)))⟩
        rw [e48] at hr1
        exact hr1
theorem FirstBoth_ev (l : List Int) (n : Int) (hl : l.length ≤ 35184372088832) : ∃ r, Ev (fun k => spec_FirstBoth.f k l n) r ∧ Ev (fun k => impl_FirstBoth.f k l n) r := by
  unfold spec_FirstBoth.f impl_FirstBoth.f
  cases hq : (fewB l && decide (0 ≤ n ∧ n ≤ 1000000)) with
  | false => exact ⟨_, Ev.bind (siAsked_ev l n hl) (Ev.if_neg' (by rw [hq]; simp) (Ev.one fun k => by rw [spec_FirstBoth.j0, if_pos rfl])), Ev.bind (isBoth_ev l n hl) (Ev.if_neg' (by rw [hq]; simp) (Ev.now _))⟩
  | true =>
    have hq2 := hq
    rw [Bool.and_eq_true, decide_eq_true_eq] at hq2
    have hwy : impl_FirstBoth.ways l 0 n = some (wayW l n) := by
      unfold impl_FirstBoth.ways
      rw [if_pos ⟨by omega, by omega, by omega, by omega⟩]
      have := waysTo_eq l hq2.1 0 n
      rw [List.drop_zero] at this
      exact congrArg some this
    by_cases hw : wayW l n = 0
    · exact ⟨_, Ev.bind (siAsked_ev l n hl) (Ev.if_pos' hq (Ev.bind (siMake_ev l n hq2.1 (by omega)) (Ev.one fun k => by rw [spec_FirstBoth.j0, if_pos (by rw [hw]; rfl)]))), Ev.bind (isBoth_ev l n hl) (Ev.if_pos' hq (Ev.if_pos' (good_few hq2.1) (Ev.const_bind hwy (Ev.if_pos' hw (Ev.now _)))))⟩
    · obtain ⟨r, h1, h2⟩ := first_loop l hq2.1 l.length 0 n [] (by omega) (by omega) (by simp) (by omega) (by rw [List.drop_zero]; unfold wayW at hw; omega)
      refine ⟨r, Ev.bind (siAsked_ev l n hl) (Ev.if_pos' hq (Ev.bind (siMake_ev l n hq2.1 (by omega)) (Ev.step (fun k => by rw [spec_FirstBoth.j0, if_neg (by simp [hw])]) ?_))), Ev.bind (isBoth_ev l n hl) (Ev.if_pos' hq (Ev.if_pos' (good_few hq2.1) (Ev.const_bind hwy (Ev.if_neg' hw ?_))))⟩
      · exact h1
      · exact h2

theorem FnExactFirstBoth : laws_FnExactFirstBoth.Pure := by
  intro l n _ _ _ _
  by_cases h : (l.length : Int) > 1048576
  · exact ⟨0, by unfold laws_FnExactFirstBoth.f; rw [if_pos h]⟩
  have hl : l.length ≤ 35184372088832 := by omega
  obtain ⟨r, hs, hi⟩ := FirstBoth_ev l n hl
  apply Ev.rounds
  unfold laws_FnExactFirstBoth.f
  refine Ev.if_neg' h (Ev.bind (toIntS_ev l hl) (Ev.bind hs (Ev.bind (toIntS_ev l hl) (Ev.bind hi (Ev.if_pos' rfl ?_)))))
  rw [show (r.2 != r.2) = false by simp]
  exact Ev.step (fun k => by rw [laws_FnExactFirstBoth.j0, if_neg (by simp)]) (Ev.bind (toIntS_ev l hl) (Ev.bind (eqIntS_self l hl) (Ev.if_pos' rfl (Ev.now _))))

end Go.Proofs.Ytobcoaafbekhaaa.Pure
