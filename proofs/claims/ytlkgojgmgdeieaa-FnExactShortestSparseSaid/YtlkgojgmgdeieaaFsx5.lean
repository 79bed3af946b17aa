/- Functions of the program and of the reference as Lean functions, and the contracts of their calls: laid by a program of this repo (wip/gen.py), in part by hand. -/
import Derived.Test.YtlkgojgmgdeieaaFsx0
import Derived.Test.YtlkgojgmgdeieaaFsx1
import Derived.Test.YtlkgojgmgdeieaaFsx4
namespace Go.Proofs.Ytlkgojgmgdeieaa.Fs
open Go.RowKit Go.Proofs.YtlkgojgmgdeieaaW.PrintWords Go.Proofs.YtlkgojgmgdeieaaW.PrintLast Go.Proofs.YtlkgojgmgdeieaaW.PrintMore
attribute [local go_sem] max2_int min2_int max_two min_two max_three min_three max_four min_four   -- for this text's walks alone
set_option linter.unusedVariables false
set_option linter.unusedSimpArgs false

/-! ### spec_FirstSparse: function 39 -/
def spec_FirstSparse.f (k : Nat) (a0 : Int) : Option (List Int × Bool) := (spec_l1In.f a0 2 6).bind fun t160 => (if t160 = true then ((spec_ruShort.f k a0).bind fun t161 => (some (t161, true))) else (some (([] : List Int), false)))
theorem spec_FirstSparse.mono : ∀ a0 k, LeO (spec_FirstSparse.f k a0) (spec_FirstSparse.f (k + 1) a0) := by
  intro a0 k
  unfold spec_FirstSparse.f
  repeat' first
      | (with_reducible exact spec_ruShort.mono _ _)
      | (with_reducible exact LeO.refl _)
      | (with_reducible exact LeO.none _)
      | (with_reducible refine LeO.ite ?_ ?_)
      | (with_reducible refine LeO.bind ?_ (fun _ => ?_))
      | exact spec_ruShort.mono _ _
      | exact LeO.none _
      | refine LeO.ite ?_ ?_
      | refine LeO.bind ?_ (fun _ => ?_)
set_option maxHeartbeats 8000000 in
set_option maxRecDepth 100000 in
theorem spec_FirstSparse.calls (k : Nat) (a0 : Int) (r1 : List Int) (r2 : Bool) (w : World) (h : spec_FirstSparse.f k a0 = some (r1, r2)) :
    Calls Try.prog 39 #[.int .i64 a0] w fun e w' => ∃ v0_ : Value, e = .returned (.tuple #[v0_, .bool r2]) ∧ Kd.R (Kd.int .i64) 3 w' w.heap.size (fun _ => True) v0_ r1 ∧ Below w.heap.size w w' := by
  have HB := Aside0.mk (Below.refl w.heap.size w)
  have H : ((spec_l1In.f a0 2 6).bind fun t160 => (if t160 = true then ((spec_ruShort.f k a0).bind fun t161 => (some (t161, true))) else (some (([] : List Int), false)))) = some (r1, r2) := h
  clear h
  replace H := Option.bind_eq_some_iff.mp H
  obtain ⟨t160, A20, H⟩ := H
  replace H : (if t160 = true then ((spec_ruShort.f k a0).bind fun t161 => (some (t161, true))) else (some (([] : List Int), false))) = some (r1, r2) := H
  have A2 := Aside0.mk A20
  clear A20
  by_cases c3 : t160 = true
  · subst c3
    have H1 : ((spec_ruShort.f k a0).bind fun t161 => (some (t161, true))) = some (r1, r2) := by rw [if_pos rfl] at H; exact H
    clear H
    have H := H1
    clear H1
    replace H := Option.bind_eq_some_iff.mp H
    obtain ⟨t161, A40, H⟩ := H
    replace H : (some (t161, true)) = some (r1, r2) := H
    have A4 := Aside0.mk A40
    clear A40
    simp only [Option.some.injEq, Prod.mk.injEq] at H
    obtain ⟨rfl, rfl⟩ := H
    go_enter Try.func39, Try.ntmps39
    go_wp2_with (first | ((with_reducible refine gate_callee (f := 65) rfl ?_); refine goesL_ (some 5) rfl rfl Try.func65 (by kernel_rfl) rfl #[.int .i64 a0, .int .i64 2, .int .i64 6] rfl (by (try simp only [List.map_toArray, List.map_cons, List.map_nil]); first | done | rfl | (simp only [List.length_drop, List.length_take]; rfl)) ?_; (with_reducible refine (spec_l1In.calls a0 2 6 true _ A2.out).mono ?_); rintro e w' ⟨rfl, ⟨nd, rfl⟩⟩; refine ⟨_, rfl, ?_⟩) | ((with_reducible refine gate_callee (f := 66) rfl ?_); refine goesL_ (some 8) rfl rfl Try.func66 (by kernel_rfl) rfl #[.int .i64 a0] rfl (by (try simp only [List.map_toArray, List.map_cons, List.map_nil]); first | done | rfl | (simp only [List.length_drop, List.length_take]; rfl)) ?_; (with_reducible refine (spec_ruShort.calls k a0 t161 _ A4.out).mono ?_); rintro e w5 ⟨v162, rfl, ho0, hb⟩; refine ⟨_, rfl, ?_⟩; have n0_ := Aside0.mk (Kd.R_lower ho0 (below_size (by repeat (first | (with_reducible first | exact HB.out | apply below_alloc | apply pw_below_drewN | apply below_drew1) | exact HB.out)))); have n1_ := Aside0.mk (below_step (by repeat (first | (with_reducible first | exact HB.out | apply below_alloc | apply pw_below_drewN | apply below_drew1) | exact HB.out)) hb); clear HB; have HO163 := n0_; have HB := n1_; clear n0_ n1_; (try clear hb); (try clear hb2); (try clear hk); (try clear hi); (try clear ho0)))
    go_ret2
    exact ⟨_, by first | rfl | (simp [errW_none, errW_some] <;> rfl) | (simp [*, errW_none, errW_some] <;> rfl), by (with_reducible repeat (first | apply Kd.R_alloc | apply Kd.R_drewN | apply Kd.R_drew)); exact HO163.out, by repeat (first | (with_reducible first | exact HB.out | apply below_alloc | apply pw_below_drewN | apply below_drew1) | exact HB.out)⟩
  · replace c3 := Bool.eq_false_iff.mpr c3
    subst c3
    have H1 : (some (([] : List Int), false)) = some (r1, r2) := by rw [if_neg (show ¬ (false = true) by decide)] at H; exact H
    clear H
    have H := H1
    clear H1
    simp only [Option.some.injEq, Prod.mk.injEq] at H
    obtain ⟨rfl, rfl⟩ := H
    go_enter Try.func39, Try.ntmps39
    go_wp2_with (first | ((with_reducible refine gate_callee (f := 65) rfl ?_); refine goesL_ (some 5) rfl rfl Try.func65 (by kernel_rfl) rfl #[.int .i64 a0, .int .i64 2, .int .i64 6] rfl (by (try simp only [List.map_toArray, List.map_cons, List.map_nil]); first | done | rfl | (simp only [List.length_drop, List.length_take]; rfl)) ?_; (with_reducible refine (spec_l1In.calls a0 2 6 false _ A2.out).mono ?_); rintro e w' ⟨rfl, ⟨nd, rfl⟩⟩; refine ⟨_, rfl, ?_⟩))
    go_ret2
    exact ⟨_, by first | rfl | (simp [errW_none, errW_some] <;> rfl) | (simp [*, errW_none, errW_some] <;> rfl), by first | exact Kd.R_nil _ _ _ _ _ | exact Kd.N_nil _ _ _ _ _ | exact Kd.V_nil _ _ _ _ _ | exact Kd.Q_nil _ _ _ _ _ | exact Kd.S_nil _ _ _ _ _, by repeat (first | (with_reducible first | exact HB.out | apply below_alloc | apply pw_below_drewN | apply below_drew1) | exact HB.out)⟩

/-! ### impl_within: function 80 -/
def impl_within.f (a0 : Int) (a1 : Int) (a2 : Int) : Option (Bool) := if a1 ≤ a0 then (some (decide (a0 ≤ a2))) else (some false)
set_option maxHeartbeats 8000000 in
set_option maxRecDepth 100000 in
theorem impl_within.calls (a0 : Int) (a1 : Int) (a2 : Int) (r : Bool) (w : World) (h : impl_within.f a0 a1 a2 = some r) :
    Calls Try.prog 80 #[.int .i64 a0, .int .i64 a1, .int .i64 a2] w fun e w' => e = .returned (.bool r) ∧ Drawn0 w w' := by
  have H : (if a1 ≤ a0 then (some (decide (a0 ≤ a2))) else (some false)) = some r := h
  clear h
  by_cases c4 : a1 ≤ a0
  · rw [if_pos c4] at H
    have c4b0 : decide (a1 ≤ a0) = true := decide_eq_true c4
    clear c4
    obtain rfl := Option.some.inj H
    go_enter Try.func80, Try.ntmps80
    go_wp2
    go_ret
    exact ⟨by first | rfl | (simp; done) | (simp [*]; done), by repeat (first | exact Drawn0.refl _ | apply Drawn0.step)⟩
  · rw [if_neg c4] at H
    have c4b0 : decide (a1 ≤ a0) = false := decide_eq_false c4
    clear c4
    obtain rfl := Option.some.inj H
    go_enter Try.func80, Try.ntmps80
    go_wp2
    go_ret
    exact ⟨by first | rfl | (simp; done) | (simp [*]; done), by repeat (first | exact Drawn0.refl _ | apply Drawn0.step)⟩

-- NOT PRINTED: function 52 (impl_measures)

/-! ### slices_Max_int_int: function 79 -/
def slices_Max_int_int.l0 : Nat → List Int → Int → Int → Option (Int)
  | 0, _, _, _ => none
  | k + 1, x0, x3, x4 => if x4 < (x0.length : Int) then (if 0 ≤ x4 then (slices_Max_int_int.l0 k x0 (mx x3 (rd x0 x4)) (wrap64 (x4 + 1))) else (none)) else (some x3)
def slices_Max_int_int.f (k : Nat) (l0 : List Int) : Option (Int) := if (l0.length : Int) < 1 then (none) else (if 0 < (l0.length : Int) then (slices_Max_int_int.l0 k l0 (rd l0 0) 1) else (none))
theorem slices_Max_int_int.mono_l : ∀ k, (∀ y0 y1 y2, LeO (slices_Max_int_int.l0 k y0 y1 y2) (slices_Max_int_int.l0 (k + 1) y0 y1 y2))
  | 0 => fun _ _ _ r h => by simp [slices_Max_int_int.l0] at h
  | k + 1 => by
    have ih0 := slices_Max_int_int.mono_l k
    · intro y0 y1 y2
      unfold slices_Max_int_int.l0
      repeat' first
      | (with_reducible exact ih0 _ _ _)
      | (with_reducible exact LeO.refl _)
      | (with_reducible exact LeO.none _)
      | (with_reducible refine LeO.ite ?_ ?_)
      | (with_reducible refine LeO.bind ?_ (fun _ => ?_))
      | exact ih0 _ _ _
      | exact LeO.none _
      | refine LeO.ite ?_ ?_
      | refine LeO.bind ?_ (fun _ => ?_)
theorem slices_Max_int_int.mono : ∀ a0 k, LeO (slices_Max_int_int.f k a0) (slices_Max_int_int.f (k + 1) a0) := by
  intro a0 k
  have ih0 := slices_Max_int_int.mono_l k
  unfold slices_Max_int_int.f
  repeat' first
      | (with_reducible exact ih0 _ _ _)
      | (with_reducible exact LeO.refl _)
      | (with_reducible exact LeO.none _)
      | (with_reducible refine LeO.ite ?_ ?_)
      | (with_reducible refine LeO.bind ?_ (fun _ => ?_))
      | exact ih0 _ _ _
      | exact LeO.none _
      | refine LeO.ite ?_ ?_
      | refine LeO.bind ?_ (fun _ => ?_)
set_option maxHeartbeats 8000000 in
set_option maxRecDepth 100000 in
theorem slices_Max_int_int.calls (k : Nat) (A0 : Option Addr) (c0 : Nat) (l0 : List Int) (r : Int) (w : World) (hr0 : Kd.C (Kd.int .i64) w A0 l0.length l0) (hc0 : l0.length ≤ c0) (h : slices_Max_int_int.f k l0 = some r) :
    Calls Try.prog 79 #[.slice A0 l0.length c0] w fun e w' => e = .returned (.int .i64 r) ∧ Below w.heap.size w w' := by
  have HR0 := Aside0.mk hr0
  have HC0 := Aside0.mk hc0
  clear hr0 hc0
  have HB := Aside0.mk (Below.refl w.heap.size w)
  have H : (if (l0.length : Int) < 1 then (none) else (if 0 < (l0.length : Int) then (slices_Max_int_int.l0 k l0 (rd l0 0) 1) else (none))) = some r := h
  clear h
  by_cases c2 : (l0.length : Int) < 1
  · rw [if_pos c2] at H
    exact absurd H (by simp)
  · rw [if_neg c2] at H
    have c2b0 : decide ((l0.length : Int) < 1) = false := decide_eq_false c2
    have c2b1 : decide (l0.length < 1) = false := decide_eq_false (by omega)
    clear c2
    by_cases c3 : 0 < (l0.length : Int)
    · rw [if_pos c3] at H
      have c3b0 : decide (0 < (l0.length : Int)) = true := decide_eq_true c3
      have c3b1 : decide (0 < l0.length) = true := decide_eq_true (by omega)
      clear c3
      have H' := Aside0.mk H
      clear H
      have p164 : 0 ≤ (0 : Int) := (by omega)
      have q164 : 0 < (l0.length : Int) := of_decide_eq_true (by first | (with_reducible assumption) | assumption)
      obtain ⟨ad164, e164, hx164_0⟩ := Kd.at_int HR0.out 0 p164 q164
      cases e164
      have qi164 : (0 < l0.length) = True := eq_true (by omega)
      (try rw [show ((0 : Int)).toNat = 0 from rfl] at hx164_0)
      (try rw [Addr.add_zero'] at hx164_0)
      replace p164 := eq_true p164
      replace q164 := eq_true q164
      go_enter Try.func79, Try.ntmps79
      go_wp2
      go_loopg [3, 4] k (fun kq v3 v4 w' => ∃ (x3_1 : Int) (x4_1 : Int), v3 = .int .i64 x3_1 ∧ v4 = .int .i64 x4_1 ∧ Aside0 (slices_Max_int_int.l0 kq l0 x3_1 x4_1 = some r) ∧ Aside0 (kq ≤ k) ∧ Aside0 (Below w.heap.size w w'))
      case atStart => exact ⟨(rd l0 0), (1), (by first | rfl | (simp; done) | (simp [*]; done)), (by first | rfl | (simp; done) | (simp [*]; done)), H', ⟨Nat.le_refl _⟩, ⟨by repeat (first | (with_reducible first | exact HB.out | apply below_alloc | apply pw_below_drewN | apply below_drew1) | exact HB.out)⟩⟩
      case round =>
        clear H'
        try clear p1
        try clear q1
        try clear hx1
        try clear qi1
        try clear c2
        try clear c2b0
        try clear c2b1
        try clear p2
        try clear c3
        try clear c3b0
        try clear c3b1
        try clear hx164_0
        try clear p164
        try clear q164
        obtain ⟨x3_1, x4_1, rfl, rfl, HA, HK1, HB⟩ := hrel
        cases gk with
        | zero => exact absurd HA.out (by simp [slices_Max_int_int.l0])
        | succ k1 =>
          have H := HA.out
          clear HA
          simp only [slices_Max_int_int.l0] at H
          by_cases c4 : x4_1 < (l0.length : Int)
          · rw [if_pos c4] at H
            have c4b0 : decide (x4_1 < (l0.length : Int)) = true := decide_eq_true c4
            clear c4
            by_cases c5 : 0 ≤ x4_1
            · rw [if_pos c5] at H
              have c5b0 : decide (0 ≤ x4_1) = true := decide_eq_true c5
              clear c5
              obtain ⟨ji6, hji6⟩ : ∃ j_ : Int, (mx x3_1 (rd l0 x4_1)) = j_ := ⟨_, rfl⟩
              replace H : (slices_Max_int_int.l0 k1 l0 ji6 (wrap64 (x4_1 + 1))) = some r := by first | (rw [hji6] at H; exact H) | (simp only [hji6] at H ⊢; exact H)
              have hji6_ : (if x3_1 < (rd l0 x4_1) then (rd l0 x4_1) else x3_1) = ji6 := hji6
              have H' := Aside0.mk H
              clear H
              have p165 : 0 ≤ (x4_1 : Int) := of_decide_eq_true (by first | (with_reducible assumption) | assumption)
              have q165 : x4_1 < (l0.length : Int) := of_decide_eq_true (by first | (with_reducible assumption) | assumption)
              obtain ⟨ad165, e165, hx165_0⟩ := Kd.at_int HR0.out x4_1 p165 q165
              obtain rfl : ad164 = ad165 := (by injection e165)
              (try replace hx165_0 := (HB.out.cell (World.block_lt_of_cell? w _ hx165_0)).trans hx165_0)
              replace p165 := eq_true p165
              replace q165 := eq_true q165
              go_wp2
              go_roundg k1
              case measure => have := HK1.out; omega
              case rel => exact ⟨(ji6), (wrap64 (x4_1 + 1)), (by first | rfl | (simp; done) | (simp only [← hji6] <;> (first | rfl | simp)) | (simp [*]; done)), (by first | rfl | (simp; done) | (simp [*]; done)), H', ⟨by have := HK1.out; omega⟩, ⟨by repeat (first | (with_reducible first | exact HB.out | apply below_alloc | apply pw_below_drewN | apply below_drew1) | exact HB.out)⟩⟩
            · rw [if_neg c5] at H
              exact absurd H (by simp)
          · rw [if_neg c4] at H
            have c4b0 : decide (x4_1 < (l0.length : Int)) = false := decide_eq_false c4
            clear c4
            obtain rfl := Option.some.inj H
            go_wp2
            go_ret
            exact ⟨by first | rfl | (simp [errW_none, errW_some] <;> rfl) | (simp [*, errW_none, errW_some] <;> rfl), by repeat (first | (with_reducible first | exact HB.out | apply below_alloc | apply pw_below_drewN | apply below_drew1) | exact HB.out)⟩
    · rw [if_neg c3] at H
      exact absurd H (by simp)

/-! ### impl_isSparse: function 56 -/
theorem impl_isSparse.M.C_cells {w : World} {A0 : Option Addr} {l0 : List Int} (h : Kd.C (Kd.int .i64) w A0 l0.length l0) (hp : 0 < l0.length) :
    ∃ b off, A0 = some ⟨b, off, none⟩ ∧ b < w.heap.size ∧ ∀ j, j < l0.length → w.cell? ⟨b, off + j, none⟩ = some (.int .i64 (l0.getD j 0)) := by
  obtain ⟨ad, rfl, h0⟩ := Kd.at_int h 0 (by omega) (by omega)
  have hs : ad.spot = none := by
    cases hsp : ad.spot with
    | none => rfl
    | some x =>
      simp only [Int.toNat_zero, Addr.add, if_true, World.cell?] at h0
      split at h0
      · simp [hsp] at h0
      · cases h0
  have hlt := World.block_lt_of_cell? w _ h0
  rw [add_block] at hlt
  obtain ⟨b, off, sp⟩ := ad
  simp only at hs hlt
  subst hs
  refine ⟨b, off, rfl, hlt, fun j hj => ?_⟩
  obtain ⟨ad', e', hc⟩ := Kd.at_int h (j : Int) (by omega) (by omega)
  cases e'
  rw [Int.toNat_natCast] at hc
  have e : (⟨b, off, none⟩ : Addr).add j = ⟨b, off + j, none⟩ := by
    unfold Addr.add
    by_cases hj0 : j = 0
    · subst hj0; rfl
    · rw [if_neg hj0]
  rw [e] at hc
  exact hc
/-- One more of a difference. -/
def impl_isSparse.M.bump (T : List Int) (d : Int) : List Int := T.set d.toNat (wrap64 (rd T d + 1))
def impl_isSparse.M.row (a : Int) (T : List Int) (bs : List Int) : List Int := bs.foldl (fun T b => impl_isSparse.M.bump T (wrap64 (a - b))) T
def impl_isSparse.M.rows (l0 : List Int) (i : Nat) : List Int := (List.range i).foldl (fun T (i : Nat) => impl_isSparse.M.row (rd l0 (i : Int)) T (l0.take i)) (List.replicate 61 0)
def impl_isSparse.M.ms (l0 : List Int) : List Int := impl_isSparse.M.rows l0 l0.length
theorem impl_isSparse.M.bump_length (T : List Int) (d : Int) : (impl_isSparse.M.bump T d).length = T.length := by simp [impl_isSparse.M.bump]
theorem impl_isSparse.M.row_length (a : Int) (bs : List Int) : ∀ T, (impl_isSparse.M.row a T bs).length = T.length := by
  induction bs with
  | nil => intro T; rfl
  | cons b t ih => intro T; show (impl_isSparse.M.row a (impl_isSparse.M.bump T _) t).length = _; rw [ih, impl_isSparse.M.bump_length]
theorem impl_isSparse.M.rows_length (l0 : List Int) (i : Nat) : (impl_isSparse.M.rows l0 i).length = 61 := by
  unfold impl_isSparse.M.rows
  suffices ∀ (is : List Nat) (T : List Int), (is.foldl (fun T (i : Nat) => impl_isSparse.M.row (rd l0 (i : Int)) T (l0.take i)) T).length = T.length by rw [this]; simp
  intro is
  induction is with
  | nil => intro T; rfl
  | cons b t ih => intro T; rw [List.foldl_cons, ih, impl_isSparse.M.row_length]
theorem impl_isSparse.M.row_snoc (a : Int) (T bs : List Int) (b : Int) : impl_isSparse.M.row a T (bs ++ [b]) = impl_isSparse.M.bump (impl_isSparse.M.row a T bs) (wrap64 (a - b)) := by simp [impl_isSparse.M.row]
theorem impl_isSparse.M.rows_succ (l0 : List Int) (i : Nat) : impl_isSparse.M.rows l0 (i + 1) = impl_isSparse.M.row (rd l0 (i : Int)) (impl_isSparse.M.rows l0 i) (l0.take i) := by unfold impl_isSparse.M.rows; rw [List.range_succ, List.foldl_append]; rfl
/-- The result's variable and the table, in the two blocks that the call lays. -/
def impl_isSparse.M.St (s : Nat) (w0 W : World) (T : List Int) : Prop :=
  (∃ Z : Array Value, Z.size = 61 ∧ W.heap[s]? = some (.cells Z 38 (0, 0))) ∧ T.length = 61 ∧ W.heap[s + 1]? = some (.cells (T.map (Value.int .i64)).toArray 38 (0, 0)) ∧ Below s w0 W
theorem impl_isSparse.M.St.cell {s : Nat} {w0 W : World} {T : List Int} (h : impl_isSparse.M.St s w0 W T) (d : Int) (h0 : 0 ≤ d) (h1 : d ≤ 60) :
    W.cell? ⟨s + 1, d.toNat, none⟩ = some (.int .i64 (rd T d)) ∧ W.frozen? ⟨s + 1, d.toNat, none⟩ = false := by
  obtain ⟨_, hl, h, _⟩ := h
  refine ⟨?_, frozen_of_row W _ _ _ _ h⟩
  rw [cell_of_row W _ _ _ _ _ h]
  have : d.toNat < T.length := by omega
  simp [rd, this]
theorem impl_isSparse.M.St.bump {s : Nat} {w0 W : World} {T : List Int} (h : impl_isSparse.M.St s w0 W T) (d : Int) : impl_isSparse.M.St s w0 (W.setCell ⟨s + 1, d.toNat, none⟩ (.int .i64 (wrap64 (rd T d + 1)))) (impl_isSparse.M.bump T d) := by
  obtain ⟨⟨Z, hz, h0⟩, hl, h1, hb⟩ := h
  refine ⟨⟨Z, hz, ?_⟩, by rw [impl_isSparse.M.bump_length]; exact hl, ?_, hb.setCell (by show s ≤ s + 1; omega) _⟩
  · rw [heap_setCell_other _ _ _ _ (by show s ≠ s + 1; omega)]; exact h0
  · rw [heap_setCell_same _ _ _ _ _ _ h1]
    simp [impl_isSparse.M.bump, List.map_set]
theorem impl_isSparse.M.St.drew {s : Nat} {w0 W : World} {T : List Int} (h : impl_isSparse.M.St s w0 W T) : impl_isSparse.M.St s w0 W.drew T := ⟨h.1, h.2.1, h.2.2.1, below_drew h.2.2.2⟩
theorem impl_isSparse.M.zero38 : (Try.prog.info? 38).map (fun i => (i.zero, i.size)) = some (some (.agg ((List.replicate 61 0).map (Value.int .i64)).toArray), 61) := by kernel_rfl
theorem impl_isSparse.M.built38 : Try.prog.built 38 [] = some ((List.replicate 61 0).map (Value.int .i64)).toArray := by kernel_rfl
theorem impl_isSparse.M.info38 : (Try.prog.info? 38).map (·.size) = some 61 := by kernel_rfl
theorem impl_isSparse.M.und38 : Try.prog.underlying 38 = some (.array 61 3) := by kernel_rfl
theorem impl_isSparse.M.St.load {s : Nat} {w0 W : World} {T : List Int} (h : impl_isSparse.M.St s w0 W T) : (loadCellsFrom ⟨s + 1, 0, none⟩ 0 61 #[]).run Try.prog W = .ok (T.map (Value.int .i64)).toArray W := by
  obtain ⟨_, hl, h, _⟩ := h
  have := run_loadCells_list (P := Try.prog) W ⟨s + 1, 0, none⟩ (T.map (Value.int .i64)) (fun j v hv => by
    have hadd : (⟨s + 1, 0, none⟩ : Addr).add j = ⟨s + 1, j, none⟩ := by unfold Addr.add; split <;> simp_all
    rw [hadd, cell_of_row _ _ j _ 38 (0, 0) h]
    simpa using hv)
  simpa [loadCells, hl] using this
theorem impl_isSparse.M.St.store {s : Nat} {w0 W : World} {T : List Int} (h : impl_isSparse.M.St s w0 W T) :
    (storeCells ⟨s, 0, none⟩ (T.map (Value.int .i64)).toArray.toList 0).run Try.prog W = .ok () (W.setRow s (T.map (Value.int .i64)).toArray) := by
  obtain ⟨⟨Z, hz, h0⟩, hl, h, _⟩ := h
  have := run_storeVar_row (P := Try.prog) W s 38 38 Z (T.map (Value.int .i64)).toArray h0 (by rw [impl_isSparse.M.info38]; simp [hl]) (by simp [hz, hl]) (by simp [Value.oneCell'])
  cases hq : Try.prog.info? 38 with
  | none => have e := impl_isSparse.M.info38; rw [hq] at e; cases e
  | some i =>
    have e := impl_isSparse.M.info38
    rw [hq] at e
    have hs : i.size = 61 := by simpa using e
    simpa [storeVar, sizeOf, typeInfo, hq, Value.cells, hs, hl] using this
theorem impl_isSparse.M.St.after {s : Nat} {w0 W : World} {T : List Int} (h : impl_isSparse.M.St s w0 W T) : Below s w0 (W.setRow s (T.map (Value.int .i64)).toArray) ∧
    (W.setRow s (T.map (Value.int .i64)).toArray).heap[s]? = some (.cells (T.map (Value.int .i64)).toArray 38 (0, 0)) := by
  obtain ⟨⟨Z, hz, h0⟩, hl, _, hb⟩ := h
  exact ⟨⟨hb.os, hb.tape, hb.output, by rw [size_setRow]; exact hb.size, fun k hk => by rw [setRow_other _ _ _ _ (by omega)]; exact hb.block k hk⟩, setRow_heap _ _ _ _ _ _ h0⟩
attribute [-go_sem] loadCellsFrom in
set_option maxRecDepth 100000 in
set_option maxHeartbeats 4000000 in
theorem impl_isSparse.M.calls (A0 : Option Addr) (c0 : Nat) (l0 : List Int)  (w : World) (hr0 : Kd.C (Kd.int .i64) w A0 l0.length l0) (hc0 : l0.length ≤ c0) (hlen : l0.length ≤ 1000) (hpos : 0 < l0.length)
     (hd : ∀ i, i < l0.length → ∀ j, j < i → 0 ≤ wrap64 (rd l0 (i : Int) - rd l0 (j : Int)) ∧ wrap64 (rd l0 (i : Int) - rd l0 (j : Int)) ≤ 60) :
    Calls Try.prog 52 #[.slice A0 l0.length c0] w fun e w' => e = .returned (.agg ((impl_isSparse.M.ms l0).map (Value.int .i64)).toArray) ∧ Below w.heap.size w w' := by
  obtain ⟨b, off, rfl, hbw, hcell⟩ := impl_isSparse.M.C_cells hr0 hpos
  have HC := Aside0.mk hcell
  have HD := Aside0.mk hd
  clear hr0 hcell hd
  have hz0 := (zero_of_info impl_isSparse.M.zero38).1
  have hb0 : ∀ w, (Instr.build 38 #[]).run Try.prog w = .ok (.agg ((List.replicate 61 0).map (Value.int .i64)).toArray) w := fun w => run_build w 38 #[] _ impl_isSparse.M.built38
  have hst0 := fun (w : World) => run_storeCells_new (P := Try.prog) w 38 ((List.replicate 61 0).map (Value.int .i64)).toArray ((List.replicate 61 0).map (Value.int .i64)).toArray (by rw [impl_isSparse.M.info38]; simp) rfl (by simp [Value.oneCell'])
  have hS0 : impl_isSparse.M.St w.heap.size w ((w.alloc (.cells ((List.replicate 61 0).map (Value.int .i64)).toArray 38)).alloc (.cells ((List.replicate 61 0).map (Value.int .i64)).toArray 38)) (impl_isSparse.M.rows l0 0) :=
    ⟨⟨_, by simp, heap_alloc2_old _ _ _⟩, by simp [impl_isSparse.M.rows_length], heap_alloc2_new _ _ _, ((Below.refl _ w).alloc (Nat.le_refl _) _).alloc (by simp) _⟩
  have hZs : ((List.replicate 61 0).map (Value.int .i64)).toArray.size = 61 := by simp
  generalize hZ : ((List.replicate 61 0).map (Value.int .i64)).toArray = Z at hz0 hb0 hst0 hS0 hZs
  have hst1 := hst0 (w.alloc (.cells Z 38))
  simp only [World.size_alloc] at hst1
  have HS := Aside0.mk hS0
  clear hZ hst0 hS0
  go_enter Try.func52, Try.ntmps52
  go_wp2
  go_loopw [11] (fun v11 wr => ∃ i : Nat, v11 = .int .i64 (i : Int) ∧ Aside0 (i ≤ l0.length) ∧ Aside0 (impl_isSparse.M.St w.heap.size w wr (impl_isSparse.M.rows l0 i))) (fun v11 _ => ((l0.length : Int) - intOf v11).toNat)
  case atStart => exact ⟨0, rfl, ⟨Nat.zero_le _⟩, HS⟩
  case round =>
    clear hz0 hb0 hst1 HS hZs
    obtain ⟨i, rfl, HI, HS⟩ := hrel
    by_cases hi : i < l0.length
    · have hcb : decide ((i : Int) < (l0.length : Int)) = true := decide_eq_true (by omega)
      obtain ⟨a, ha⟩ : ∃ a : Int, rd l0 (i : Int) = a := ⟨_, rfl⟩
      have hx : wr.cell? ⟨b, off + i, none⟩ = some (.int .i64 a) := by rw [← ha]; exact (HS.out.2.2.2.cell (p := ⟨b, off + i, none⟩) hbw).trans (HC.out i hi)
      have HA := Aside0.mk ha
      clear ha
      have hn : (0 : Int) ≤ i ∧ (i : Int) < (l0.length : Int) := by omega
      have hic : i ≤ c0 := by omega
      go_wp2
      have HS0 : Aside0 (impl_isSparse.M.St w.heap.size w wr (impl_isSparse.M.row (rd l0 (i : Int)) (impl_isSparse.M.rows l0 i) ((l0.take i).take 0))) := ⟨HS.out⟩
      clear hx
      go_loopw [20] (fun v20 wr => ∃ j : Nat, v20 = .int .i64 (j : Int) ∧ Aside0 (j ≤ i) ∧ Aside0 (impl_isSparse.M.St w.heap.size w wr (impl_isSparse.M.row (rd l0 (i : Int)) (impl_isSparse.M.rows l0 i) ((l0.take i).take j)))) (fun v20 _ => ((i : Int) - intOf v20).toNat)
      case atStart => exact ⟨0, rfl, ⟨Nat.zero_le _⟩, HS0⟩
      case round =>
        clear HS0
        obtain ⟨j, rfl, HJ, HS⟩ := hrel
        by_cases hj : j < i
        · have hcb2 : decide ((j : Int) < (i : Int)) = true := decide_eq_true (by omega)
          obtain ⟨y, hy⟩ : ∃ y : Int, rd l0 (j : Int) = y := ⟨_, rfl⟩
          have hx : wr.cell? ⟨b, off + j, none⟩ = some (.int .i64 y) := by rw [← hy]; exact (HS.out.2.2.2.cell (p := ⟨b, off + j, none⟩) hbw).trans (HC.out j (by omega))
          have hn2 : (0 : Int) ≤ j ∧ (j : Int) < (i : Int) := by omega
          obtain ⟨d, hd⟩ : ∃ d : Int, wrap64 (a - y) = d := ⟨_, rfl⟩
          have HDD := HD.out i hi j hj
          rw [hy, HA.out, hd] at HDD
          obtain ⟨hd0, hd1⟩ := HDD
          obtain ⟨hxt, hft⟩ := HS.out.cell d hd0 hd1
          have hdw : IntKind.i64.wrap (a - y) = d := (i64_w _).trans hd
          have hd2 : d < 61 := by omega
          have HS1 : Aside0 (impl_isSparse.M.St w.heap.size w (wr.setCell ⟨w.heap.size + 1, d.toNat, none⟩ (.int .i64 (wrap64 (rd (impl_isSparse.M.row (rd l0 (i : Int)) (impl_isSparse.M.rows l0 i) ((l0.take i).take j)) d + 1)))) (impl_isSparse.M.row (rd l0 (i : Int)) (impl_isSparse.M.rows l0 i) ((l0.take i).take (j + 1)))) := ⟨by
            have e : (l0.take i).take (j + 1) = (l0.take i).take j ++ [rd l0 (j : Int)] := by
              have hjl : j < (l0.take i).length := by simp; omega
              rw [List.take_succ_eq_append_getElem hjl, List.getElem_take, show rd l0 (j : Int) = l0[j] by simp [rd, show j < l0.length by omega]]
            rw [e, impl_isSparse.M.row_snoc, show wrap64 (rd l0 (i : Int) - rd l0 (j : Int)) = d by rw [hy, HA.out, hd]]
            exact HS.out.bump d⟩
          have HY := Aside0.mk hy
          clear hy
          generalize impl_isSparse.M.row (rd l0 (i : Int)) (impl_isSparse.M.rows l0 i) ((l0.take i).take j) = T at hxt HS1 HS
          obtain ⟨t, ht⟩ : ∃ t : Int, rd T d = t := ⟨_, rfl⟩
          rw [ht] at hxt HS1
          clear ht
          go_wp2
          exact ⟨⟨j + 1, by rw [Int.natCast_succ], ⟨by omega⟩, HS1⟩, by simp only [intOf]; omega⟩
        · have hcb2 : decide ((j : Int) < (i : Int)) = false := decide_eq_false (by omega)
          have hji : j = i := by have := HJ.out; omega
          have HS1 : Aside0 (impl_isSparse.M.St w.heap.size w wr (impl_isSparse.M.rows l0 (i + 1))) := ⟨by
            have := HS.out
            rw [hji, List.take_of_length_le (by simp; omega)] at this
            rw [impl_isSparse.M.rows_succ]; exact this⟩
          clear hji HS
          go_wp2
          exact ⟨⟨i + 1, by rw [Int.natCast_succ], ⟨by omega⟩, HS1⟩, by simp only [intOf]; omega⟩
    · have hcb : decide ((i : Int) < (l0.length : Int)) = false := decide_eq_false (by omega)
      have hli : i = l0.length := by have := HI.out; omega
      have HS1 : Aside0 (impl_isSparse.M.St w.heap.size w wr (impl_isSparse.M.ms l0)) := ⟨by have := HS.out; rw [hli] at this; exact this⟩
      clear hli HS
      obtain ⟨hB, hg2⟩ := HS1.out.after
      have HB := Aside0.mk hB
      have HG := Aside0.mk hg2
      clear hB hg2
      have hl1 := HS1.out.load
      have hst := HS1.out.store
      have hsz : ((impl_isSparse.M.ms l0).map (Value.int .i64)).toArray.size = 61 := by simp [impl_isSparse.M.ms, impl_isSparse.M.rows_length]
      have HZ := Aside0.mk hsz
      generalize hR : ((impl_isSparse.M.ms l0).map (Value.int .i64)).toArray = R at *
      have HR := Aside0.mk hR
      clear hR
      generalize wr.setRow w.heap.size R = W2 at *
      go_wp2
      refine bodyPost_ret (v := .agg R) ?_ rfl ⟨by rw [HR.out], HB.out⟩
      exact results_cell_row rfl _ _ w.heap.size 38 R (0, 0) _ rfl HG.out impl_isSparse.M.und38 rfl (by rw [impl_isSparse.M.info38, HZ.out])

def impl_isSparse.M.fit (l0 : List Int) : Prop := (l0.length ≤ 1000 ∧ 0 < l0.length) ∧ ∀ i, i < l0.length → ∀ j, j < i → 0 ≤ wrap64 (rd l0 (i : Int) - rd l0 (j : Int)) ∧ wrap64 (rd l0 (i : Int) - rd l0 (j : Int)) ≤ 60
instance impl_isSparse.M.dec (l0 : List Int) : Decidable (impl_isSparse.M.fit l0) := by unfold impl_isSparse.M.fit; infer_instance
def impl_isSparse.M.pick (T : List Int) (m : Bool) (k : Nat) : List Int := ((List.range k).map (fun (j : Nat) => (j : Int) + 1)).filter (fun n => decide (0 < rd T n) == m)
theorem impl_isSparse.M.pick_succ (T : List Int) (m : Bool) (k : Nat) : impl_isSparse.M.pick T m (k + 1) = impl_isSparse.M.pick T m k ++ (if (decide (0 < rd T ((k : Int) + 1)) == m) = true then [(k : Int) + 1] else []) := by
  unfold impl_isSparse.M.pick
  rw [List.range_succ, List.map_append, List.filter_append]
  simp only [List.map_cons, List.map_nil, List.filter_cons, List.filter_nil]
theorem impl_isSparse.M.pick_length (T : List Int) (m : Bool) (k : Nat) : (impl_isSparse.M.pick T m k).length ≤ k := by
  unfold impl_isSparse.M.pick
  exact Nat.le_trans (List.length_filter_le _ _) (by simp)
def impl_isSparse.f (l0 : List Int) : Option (Bool) := if impl_isSparse.M.fit l0 then some (decide (Lib.maxOf (impl_isSparse.M.ms l0) ≤ 1)) else none
attribute [-go_sem] loadCellsFrom in
set_option maxRecDepth 100000 in
set_option maxHeartbeats 4000000 in
theorem impl_isSparse.calls (A0 : Option Addr) (c0 : Nat) (l0 : List Int) (r : Bool) (w : World) (hr0 : Kd.C (Kd.int .i64) w A0 l0.length l0) (hc0 : l0.length ≤ c0) (h : impl_isSparse.f l0 = some r) :
    Calls Try.prog 56 #[.slice A0 l0.length c0] w fun e w' => e = .returned (.bool r) ∧ Below w.heap.size w w' := by
  have HR0 := Aside0.mk hr0
  have HC0 := Aside0.mk hc0
  clear hr0
  have hfit : impl_isSparse.M.fit l0 := by
    apply Classical.byContradiction; intro hn; simp [impl_isSparse.f, hn] at h
  have hr : decide (Lib.maxOf (impl_isSparse.M.ms l0) ≤ 1) = r := by
    unfold impl_isSparse.f at h; rw [if_pos hfit] at h; exact Option.some.inj h
  clear h
  obtain ⟨⟨hl1, hl2⟩, hd⟩ := hfit
  have HD := Aside0.mk hd
  clear hd
  have hz0 := (zero_of_info impl_isSparse.M.zero38).1
  have hst0 := fun (w : World) => run_storeCells_new (P := Try.prog) w 38 ((List.replicate 61 0).map (Value.int .i64)).toArray ((impl_isSparse.M.ms l0).map (Value.int .i64)).toArray (by rw [impl_isSparse.M.info38]; simp [impl_isSparse.M.ms, impl_isSparse.M.rows_length]) (by simp [impl_isSparse.M.ms, impl_isSparse.M.rows_length]) (by simp [Value.oneCell'])
  have hZs : ((impl_isSparse.M.ms l0).map (Value.int .i64)).toArray.size = 61 := by simp [impl_isSparse.M.ms, impl_isSparse.M.rows_length]
  generalize ((List.replicate 61 0).map (Value.int .i64)).toArray = Z at hz0 hst0
  obtain ⟨R, hR⟩ : ∃ R, ((impl_isSparse.M.ms l0).map (Value.int .i64)).toArray = R := ⟨_, rfl⟩
  rw [hR] at hst0 hZs
  have HRT := Aside0.mk hR
  clear hR
  have HK : Calls Try.prog 52 #[.slice (A0) l0.length c0] w fun e w' => e = .returned (.agg R) ∧ Below w.heap.size w w' := by
    have := impl_isSparse.M.calls A0 c0 l0 w HR0.out HC0.out hl1 hl2 HD.out
    rw [HRT.out] at this
    exact this
  have HKK := Aside0.mk HK
  clear HK
  obtain ⟨mx, hmx⟩ : ∃ m : Int, Lib.maxOf (impl_isSparse.M.ms l0) = m := ⟨_, rfl⟩
  rw [hmx] at hr
  have HM := Aside0.mk hmx
  clear hmx
  have HX : ∀ w2 : World, Calls Try.prog 79 #[.slice (some ⟨w2.heap.size, 0, none⟩) 61 61] (w2.alloc (.cells R 38)) fun e w' => e = .returned (.int .i64 mx) ∧ w' = (w2.alloc (.cells R 38)) := fun w2 => by
    have := Try.slices_Max_int w2.heap.size 0 61 61 (impl_isSparse.M.ms l0) (w2.alloc (.cells R 38)) (by omega) (by rw [impl_isSparse.M.ms, impl_isSparse.M.rows_length]; omega) (by omega) (fun j hj => by
      rw [Nat.zero_add, cell_of_row _ _ _ _ _ _ (heap_alloc_last w2 (.cells R 38)), ← HRT.out]
      simp [hj])
    rw [List.take_of_length_le (by rw [impl_isSparse.M.ms, impl_isSparse.M.rows_length]; omega), HM.out] at this
    exact this
  have HXX := Aside0.mk HX
  clear HX
  go_enter Try.func56, Try.ntmps56
  go_wp2_with (first | (go_at_call 52; refine HKK.out.mono ?_; rintro e w2 ⟨rfl, hb2⟩; have hst1 := hst0 w2; have HB2 := Aside0.mk hb2; clear hb2) | (go_at_call 79; refine (HXX.out _).mono ?_; rintro e w' ⟨rfl, rfl⟩))
  go_ret
  exact ⟨by simp [hr], HB2.out.alloc HB2.out.size _⟩

end Go.Proofs.Ytlkgojgmgdeieaa.Fs
