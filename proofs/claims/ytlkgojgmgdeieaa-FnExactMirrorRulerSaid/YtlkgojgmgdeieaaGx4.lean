/- Functions of the program and of the reference as Lean functions, and the contracts of their calls: laid by a program of this repo (wip/gen.py), in part by hand. -/
import Derived.Test.YtlkgojgmgdeieaaGx0
import Derived.Test.YtlkgojgmgdeieaaGx3
namespace Go.Proofs.Ytlkgojgmgdeieaa.G
open Go.RowKit Go.Proofs.YtlkgojgmgdeieaaW.PrintWords Go.Proofs.YtlkgojgmgdeieaaW.PrintLast Go.Proofs.YtlkgojgmgdeieaaW.PrintMore
attribute [local go_sem] max2_int min2_int max_two min_two max_three min_three max_four min_four   -- for this text's walks alone
set_option linter.unusedVariables false
set_option linter.unusedSimpArgs false

/-! ### impl_IsRuler: function 51 -/
def impl_IsRuler.f (k : Nat) (l0 : List Int) : Option (Bool) := if (l0.length : Int) ≥ 2 then (if 0 < (l0.length : Int) then (if (rd l0 0) = 0 then (if 0 ≤ (wrap64 ((l0.length : Int) - 1)) then (if (wrap64 ((l0.length : Int) - 1)) < (l0.length : Int) then (if (rd l0 (wrap64 ((l0.length : Int) - 1))) ≤ 60 then ((impl_rises.f k l0).bind fun t129 => (some t129)) else (some false)) else (none)) else (none)) else (some false)) else (none)) else (some false)
theorem impl_IsRuler.mono : ∀ a0 k, LeO (impl_IsRuler.f k a0) (impl_IsRuler.f (k + 1) a0) := by
  intro a0 k
  unfold impl_IsRuler.f
  repeat' first
      | (with_reducible exact impl_rises.mono _ _)
      | (with_reducible exact LeO.refl _)
      | (with_reducible exact LeO.none _)
      | (with_reducible refine LeO.ite ?_ ?_)
      | (with_reducible refine LeO.bind ?_ (fun _ => ?_))
      | exact impl_rises.mono _ _
      | exact LeO.none _
      | refine LeO.ite ?_ ?_
      | refine LeO.bind ?_ (fun _ => ?_)
set_option maxHeartbeats 8000000 in
set_option maxRecDepth 100000 in
theorem impl_IsRuler.calls (k : Nat) (A0 : Option Addr) (c0 : Nat) (l0 : List Int) (r : Bool) (w : World) (hr0 : Kd.C (Kd.int .i64) w A0 l0.length l0) (hc0 : l0.length ≤ c0) (h : impl_IsRuler.f k l0 = some r) :
    Calls Try.prog 51 #[.slice A0 l0.length c0] w fun e w' => e = .returned (.bool r) ∧ Drawn0 w w' := by
  have HR0 := Aside0.mk hr0
  have HC0 := Aside0.mk hc0
  clear hr0 hc0
  have H : (if (l0.length : Int) ≥ 2 then (if 0 < (l0.length : Int) then (if (rd l0 0) = 0 then (if 0 ≤ (wrap64 ((l0.length : Int) - 1)) then (if (wrap64 ((l0.length : Int) - 1)) < (l0.length : Int) then (if (rd l0 (wrap64 ((l0.length : Int) - 1))) ≤ 60 then ((impl_rises.f k l0).bind fun t129 => (some t129)) else (some false)) else (none)) else (none)) else (some false)) else (none)) else (some false)) = some r := h
  clear h
  by_cases c2 : (l0.length : Int) ≥ 2
  · rw [if_pos c2] at H
    have c2b0 : decide (2 ≤ (l0.length : Int)) = true := decide_eq_true c2
    have c2b1 : decide (2 ≤ l0.length) = true := decide_eq_true (by omega)
    clear c2
    by_cases c3 : 0 < (l0.length : Int)
    · rw [if_pos c3] at H
      have c3b0 : decide (0 < (l0.length : Int)) = true := decide_eq_true c3
      have c3b1 : decide (0 < l0.length) = true := decide_eq_true (by omega)
      clear c3
      by_cases c4 : (rd l0 0) = 0
      · rw [if_pos c4] at H
        have c4b0 : ((rd l0 0) == 0) = true := beq_iff_eq.mpr c4
        have c4b1 : ((rd l0 0) != 0) = false := bne_eq_false_iff_eq.mpr c4
        clear c4
        obtain ⟨ji5, hji5⟩ : ∃ j_ : Int, (wrap64 ((l0.length : Int) - 1)) = j_ := ⟨_, rfl⟩
        replace H : (if 0 ≤ (ji5) then (if (ji5) < (l0.length : Int) then (if (rd l0 (ji5)) ≤ 60 then ((impl_rises.f k l0).bind fun t129 => (some t129)) else (some false)) else (none)) else (none)) = some r := by first | (rw [hji5] at H; exact H) | (simp only [hji5] at H ⊢; exact H)
        have hji5w : (IntKind.i64.wrap ((l0.length : Int) - 1)) = ji5 := (i64_w _).trans hji5
        by_cases c6 : 0 ≤ (ji5)
        · rw [if_pos c6] at H
          have c6b0 : decide (0 ≤ (ji5)) = true := decide_eq_true c6
          clear c6
          by_cases c7 : (ji5) < (l0.length : Int)
          · rw [if_pos c7] at H
            have c7b0 : decide ((ji5) < (l0.length : Int)) = true := decide_eq_true c7
            clear c7
            by_cases c8 : (rd l0 (ji5)) ≤ 60
            · rw [if_pos c8] at H
              have c8b0 : decide ((rd l0 (ji5)) ≤ 60) = true := decide_eq_true c8
              clear c8
              replace H := Option.bind_eq_some_iff.mp H
              obtain ⟨t129, A90, H⟩ := H
              replace H : (some t129) = some r := H
              have A9 := Aside0.mk A90
              clear A90
              obtain rfl := Option.some.inj H
              have p127 : 0 ≤ (0 : Int) := (by omega)
              have q127 : 0 < (l0.length : Int) := of_decide_eq_true (by first | (with_reducible assumption) | assumption)
              obtain ⟨ad127, e127, hx127_0⟩ := Kd.at_int HR0.out 0 p127 q127
              cases e127
              have qi127 : (0 < l0.length) = True := eq_true (by omega)
              (try rw [show ((0 : Int)).toNat = 0 from rfl] at hx127_0)
              (try rw [Addr.add_zero'] at hx127_0)
              replace p127 := eq_true p127
              replace q127 := eq_true q127
              have p128 : 0 ≤ ((ji5) : Int) := of_decide_eq_true (by first | (with_reducible assumption) | assumption)
              have q128 : (ji5) < (l0.length : Int) := of_decide_eq_true (by first | (with_reducible assumption) | assumption)
              obtain ⟨ad128, e128, hx128_0⟩ := Kd.at_int HR0.out (ji5) p128 q128
              obtain rfl : ad127 = ad128 := (by injection e128)
              replace p128 := eq_true p128
              replace q128 := eq_true q128
              go_enter Try.func51, Try.ntmps51
              go_wp2_with (first | (go_at_call 77; (with_reducible refine (impl_rises.calls k _ _ l0 t129 _ ?side1 ?side2 A9.out).mono ?_); (case side1 => repeat (first | exact HR0.out | (with_reducible refine Kd.C_alloc ?_ _) | (with_reducible refine Kd.C_drewN ?_ _) | (with_reducible refine Kd.C_drew ?_))); (case side2 => exact HC0.out); rintro e w' ⟨rfl, ⟨nd, rfl⟩⟩))
              go_ret
              exact ⟨by first | rfl | (simp; done) | (simp only [← hji5] <;> (first | rfl | simp)) | (simp [*]; done), by repeat (first | exact Drawn0.refl _ | apply Drawn0.step)⟩
            · rw [if_neg c8] at H
              have c8b0 : decide ((rd l0 (ji5)) ≤ 60) = false := decide_eq_false c8
              clear c8
              obtain rfl := Option.some.inj H
              have p127 : 0 ≤ (0 : Int) := (by omega)
              have q127 : 0 < (l0.length : Int) := of_decide_eq_true (by first | (with_reducible assumption) | assumption)
              obtain ⟨ad127, e127, hx127_0⟩ := Kd.at_int HR0.out 0 p127 q127
              cases e127
              have qi127 : (0 < l0.length) = True := eq_true (by omega)
              (try rw [show ((0 : Int)).toNat = 0 from rfl] at hx127_0)
              (try rw [Addr.add_zero'] at hx127_0)
              replace p127 := eq_true p127
              replace q127 := eq_true q127
              have p128 : 0 ≤ ((ji5) : Int) := of_decide_eq_true (by first | (with_reducible assumption) | assumption)
              have q128 : (ji5) < (l0.length : Int) := of_decide_eq_true (by first | (with_reducible assumption) | assumption)
              obtain ⟨ad128, e128, hx128_0⟩ := Kd.at_int HR0.out (ji5) p128 q128
              obtain rfl : ad127 = ad128 := (by injection e128)
              replace p128 := eq_true p128
              replace q128 := eq_true q128
              go_enter Try.func51, Try.ntmps51
              go_wp2
              go_ret
              exact ⟨by first | rfl | (simp; done) | (simp only [← hji5] <;> (first | rfl | simp)) | (simp [*]; done), by repeat (first | exact Drawn0.refl _ | apply Drawn0.step)⟩
          · rw [if_neg c7] at H
            exact absurd H (by simp)
        · rw [if_neg c6] at H
          exact absurd H (by simp)
      · rw [if_neg c4] at H
        have c4b0 : ((rd l0 0) == 0) = false := beq_eq_false_iff_ne.mpr c4
        have c4b1 : ((rd l0 0) != 0) = true := bne_iff_ne.mpr c4
        obtain rfl := Option.some.inj H
        have p127 : 0 ≤ (0 : Int) := (by omega)
        have q127 : 0 < (l0.length : Int) := of_decide_eq_true (by first | (with_reducible assumption) | assumption)
        obtain ⟨ad127, e127, hx127_0⟩ := Kd.at_int HR0.out 0 p127 q127
        cases e127
        have qi127 : (0 < l0.length) = True := eq_true (by omega)
        (try rw [show ((0 : Int)).toNat = 0 from rfl] at hx127_0)
        (try rw [Addr.add_zero'] at hx127_0)
        replace p127 := eq_true p127
        replace q127 := eq_true q127
        go_enter Try.func51, Try.ntmps51
        go_wp2
        go_ret
        exact ⟨by first | rfl | (simp; done) | (simp [*]; done), by repeat (first | exact Drawn0.refl _ | apply Drawn0.step)⟩
    · rw [if_neg c3] at H
      exact absurd H (by simp)
  · rw [if_neg c2] at H
    have c2b0 : decide (2 ≤ (l0.length : Int)) = false := decide_eq_false c2
    have c2b1 : decide (2 ≤ l0.length) = false := decide_eq_false (by omega)
    clear c2
    obtain rfl := Option.some.inj H
    go_enter Try.func51, Try.ntmps51
    go_wp2
    go_ret
    exact ⟨by first | rfl | (simp; done) | (simp [*]; done), by repeat (first | exact Drawn0.refl _ | apply Drawn0.step)⟩

-- NOT PRINTED: function 52 (impl_measures)

/-! ### impl_RunOfRuler: function 19 -/
theorem impl_RunOfRuler.M.C_cells {w : World} {A0 : Option Addr} {l0 : List Int} (h : Kd.C (Kd.int .i64) w A0 l0.length l0) (hp : 0 < l0.length) :
    ∃ b off, A0 = some ⟨b, off, none⟩ ∧ b < w.heap.size ∧ ∀ j, j < l0.length → w.cell? ⟨b, off + j, none⟩ = some (.int .i64 (l0.getD j 0)) := by
  obtain ⟨ad, rfl, h0⟩ := Kd.at_int h 0 (by omega) (by omega)
  have hs : ad.spot = none := by
    cases hsp : ad.spot with
    | none => rfl
    | some x =>
      simp only [Int.toNat_zero, Addr.add, if_true, World.cell?] at h0
      split at h0
      · simp [hsp] at h0
      · cases h0
  have hlt := World.block_lt_of_cell? w _ h0
  rw [add_block] at hlt
  obtain ⟨b, off, sp⟩ := ad
  simp only at hs hlt
  subst hs
  refine ⟨b, off, rfl, hlt, fun j hj => ?_⟩
  obtain ⟨ad', e', hc⟩ := Kd.at_int h (j : Int) (by omega) (by omega)
  cases e'
  rw [Int.toNat_natCast] at hc
  have e : (⟨b, off, none⟩ : Addr).add j = ⟨b, off + j, none⟩ := by
    unfold Addr.add
    by_cases hj0 : j = 0
    · subst hj0; rfl
    · rw [if_neg hj0]
  rw [e] at hc
  exact hc
/-- One more of a difference. -/
def impl_RunOfRuler.M.bump (T : List Int) (d : Int) : List Int := T.set d.toNat (wrap64 (rd T d + 1))
def impl_RunOfRuler.M.row (a : Int) (T : List Int) (bs : List Int) : List Int := bs.foldl (fun T b => impl_RunOfRuler.M.bump T (wrap64 (a - b))) T
def impl_RunOfRuler.M.rows (l0 : List Int) (i : Nat) : List Int := (List.range i).foldl (fun T (i : Nat) => impl_RunOfRuler.M.row (rd l0 (i : Int)) T (l0.take i)) (List.replicate 61 0)
def impl_RunOfRuler.M.ms (l0 : List Int) : List Int := impl_RunOfRuler.M.rows l0 l0.length
theorem impl_RunOfRuler.M.bump_length (T : List Int) (d : Int) : (impl_RunOfRuler.M.bump T d).length = T.length := by simp [impl_RunOfRuler.M.bump]
theorem impl_RunOfRuler.M.row_length (a : Int) (bs : List Int) : ∀ T, (impl_RunOfRuler.M.row a T bs).length = T.length := by
  induction bs with
  | nil => intro T; rfl
  | cons b t ih => intro T; show (impl_RunOfRuler.M.row a (impl_RunOfRuler.M.bump T _) t).length = _; rw [ih, impl_RunOfRuler.M.bump_length]
theorem impl_RunOfRuler.M.rows_length (l0 : List Int) (i : Nat) : (impl_RunOfRuler.M.rows l0 i).length = 61 := by
  unfold impl_RunOfRuler.M.rows
  suffices ∀ (is : List Nat) (T : List Int), (is.foldl (fun T (i : Nat) => impl_RunOfRuler.M.row (rd l0 (i : Int)) T (l0.take i)) T).length = T.length by rw [this]; simp
  intro is
  induction is with
  | nil => intro T; rfl
  | cons b t ih => intro T; rw [List.foldl_cons, ih, impl_RunOfRuler.M.row_length]
theorem impl_RunOfRuler.M.row_snoc (a : Int) (T bs : List Int) (b : Int) : impl_RunOfRuler.M.row a T (bs ++ [b]) = impl_RunOfRuler.M.bump (impl_RunOfRuler.M.row a T bs) (wrap64 (a - b)) := by simp [impl_RunOfRuler.M.row]
theorem impl_RunOfRuler.M.rows_succ (l0 : List Int) (i : Nat) : impl_RunOfRuler.M.rows l0 (i + 1) = impl_RunOfRuler.M.row (rd l0 (i : Int)) (impl_RunOfRuler.M.rows l0 i) (l0.take i) := by unfold impl_RunOfRuler.M.rows; rw [List.range_succ, List.foldl_append]; rfl
/-- The result's variable and the table, in the two blocks that the call lays. -/
def impl_RunOfRuler.M.St (s : Nat) (w0 W : World) (T : List Int) : Prop :=
  (∃ Z : Array Value, Z.size = 61 ∧ W.heap[s]? = some (.cells Z 38 (0, 0))) ∧ T.length = 61 ∧ W.heap[s + 1]? = some (.cells (T.map (Value.int .i64)).toArray 38 (0, 0)) ∧ Below s w0 W
theorem impl_RunOfRuler.M.St.cell {s : Nat} {w0 W : World} {T : List Int} (h : impl_RunOfRuler.M.St s w0 W T) (d : Int) (h0 : 0 ≤ d) (h1 : d ≤ 60) :
    W.cell? ⟨s + 1, d.toNat, none⟩ = some (.int .i64 (rd T d)) ∧ W.frozen? ⟨s + 1, d.toNat, none⟩ = false := by
  obtain ⟨_, hl, h, _⟩ := h
  refine ⟨?_, frozen_of_row W _ _ _ _ h⟩
  rw [cell_of_row W _ _ _ _ _ h]
  have : d.toNat < T.length := by omega
  simp [rd, this]
theorem impl_RunOfRuler.M.St.bump {s : Nat} {w0 W : World} {T : List Int} (h : impl_RunOfRuler.M.St s w0 W T) (d : Int) : impl_RunOfRuler.M.St s w0 (W.setCell ⟨s + 1, d.toNat, none⟩ (.int .i64 (wrap64 (rd T d + 1)))) (impl_RunOfRuler.M.bump T d) := by
  obtain ⟨⟨Z, hz, h0⟩, hl, h1, hb⟩ := h
  refine ⟨⟨Z, hz, ?_⟩, by rw [impl_RunOfRuler.M.bump_length]; exact hl, ?_, hb.setCell (by show s ≤ s + 1; omega) _⟩
  · rw [heap_setCell_other _ _ _ _ (by show s ≠ s + 1; omega)]; exact h0
  · rw [heap_setCell_same _ _ _ _ _ _ h1]
    simp [impl_RunOfRuler.M.bump, List.map_set]
theorem impl_RunOfRuler.M.St.drew {s : Nat} {w0 W : World} {T : List Int} (h : impl_RunOfRuler.M.St s w0 W T) : impl_RunOfRuler.M.St s w0 W.drew T := ⟨h.1, h.2.1, h.2.2.1, below_drew h.2.2.2⟩
theorem impl_RunOfRuler.M.zero38 : (Try.prog.info? 38).map (fun i => (i.zero, i.size)) = some (some (.agg ((List.replicate 61 0).map (Value.int .i64)).toArray), 61) := by kernel_rfl
theorem impl_RunOfRuler.M.built38 : Try.prog.built 38 [] = some ((List.replicate 61 0).map (Value.int .i64)).toArray := by kernel_rfl
theorem impl_RunOfRuler.M.info38 : (Try.prog.info? 38).map (·.size) = some 61 := by kernel_rfl
theorem impl_RunOfRuler.M.und38 : Try.prog.underlying 38 = some (.array 61 3) := by kernel_rfl
theorem impl_RunOfRuler.M.St.load {s : Nat} {w0 W : World} {T : List Int} (h : impl_RunOfRuler.M.St s w0 W T) : (loadCellsFrom ⟨s + 1, 0, none⟩ 0 61 #[]).run Try.prog W = .ok (T.map (Value.int .i64)).toArray W := by
  obtain ⟨_, hl, h, _⟩ := h
  have := run_loadCells_list (P := Try.prog) W ⟨s + 1, 0, none⟩ (T.map (Value.int .i64)) (fun j v hv => by
    have hadd : (⟨s + 1, 0, none⟩ : Addr).add j = ⟨s + 1, j, none⟩ := by unfold Addr.add; split <;> simp_all
    rw [hadd, cell_of_row _ _ j _ 38 (0, 0) h]
    simpa using hv)
  simpa [loadCells, hl] using this
theorem impl_RunOfRuler.M.St.store {s : Nat} {w0 W : World} {T : List Int} (h : impl_RunOfRuler.M.St s w0 W T) :
    (storeCells ⟨s, 0, none⟩ (T.map (Value.int .i64)).toArray.toList 0).run Try.prog W = .ok () (W.setRow s (T.map (Value.int .i64)).toArray) := by
  obtain ⟨⟨Z, hz, h0⟩, hl, h, _⟩ := h
  have := run_storeVar_row (P := Try.prog) W s 38 38 Z (T.map (Value.int .i64)).toArray h0 (by rw [impl_RunOfRuler.M.info38]; simp [hl]) (by simp [hz, hl]) (by simp [Value.oneCell'])
  cases hq : Try.prog.info? 38 with
  | none => have e := impl_RunOfRuler.M.info38; rw [hq] at e; cases e
  | some i =>
    have e := impl_RunOfRuler.M.info38
    rw [hq] at e
    have hs : i.size = 61 := by simpa using e
    simpa [storeVar, sizeOf, typeInfo, hq, Value.cells, hs, hl] using this
theorem impl_RunOfRuler.M.St.after {s : Nat} {w0 W : World} {T : List Int} (h : impl_RunOfRuler.M.St s w0 W T) : Below s w0 (W.setRow s (T.map (Value.int .i64)).toArray) ∧
    (W.setRow s (T.map (Value.int .i64)).toArray).heap[s]? = some (.cells (T.map (Value.int .i64)).toArray 38 (0, 0)) := by
  obtain ⟨⟨Z, hz, h0⟩, hl, _, hb⟩ := h
  exact ⟨⟨hb.os, hb.tape, hb.output, by rw [size_setRow]; exact hb.size, fun k hk => by rw [setRow_other _ _ _ _ (by omega)]; exact hb.block k hk⟩, setRow_heap _ _ _ _ _ _ h0⟩
attribute [-go_sem] loadCellsFrom in
set_option maxRecDepth 100000 in
set_option maxHeartbeats 4000000 in
theorem impl_RunOfRuler.M.calls (A0 : Option Addr) (c0 : Nat) (l0 : List Int)  (w : World) (hr0 : Kd.C (Kd.int .i64) w A0 l0.length l0) (hc0 : l0.length ≤ c0) (hlen : l0.length ≤ 1000) (hpos : 0 < l0.length)
     (hd : ∀ i, i < l0.length → ∀ j, j < i → 0 ≤ wrap64 (rd l0 (i : Int) - rd l0 (j : Int)) ∧ wrap64 (rd l0 (i : Int) - rd l0 (j : Int)) ≤ 60) :
    Calls Try.prog 52 #[.slice A0 l0.length c0] w fun e w' => e = .returned (.agg ((impl_RunOfRuler.M.ms l0).map (Value.int .i64)).toArray) ∧ Below w.heap.size w w' := by
  obtain ⟨b, off, rfl, hbw, hcell⟩ := impl_RunOfRuler.M.C_cells hr0 hpos
  have HC := Aside0.mk hcell
  have HD := Aside0.mk hd
  clear hr0 hcell hd
  have hz0 := (zero_of_info impl_RunOfRuler.M.zero38).1
  have hb0 : ∀ w, (Instr.build 38 #[]).run Try.prog w = .ok (.agg ((List.replicate 61 0).map (Value.int .i64)).toArray) w := fun w => run_build w 38 #[] _ impl_RunOfRuler.M.built38
  have hst0 := fun (w : World) => run_storeCells_new (P := Try.prog) w 38 ((List.replicate 61 0).map (Value.int .i64)).toArray ((List.replicate 61 0).map (Value.int .i64)).toArray (by rw [impl_RunOfRuler.M.info38]; simp) rfl (by simp [Value.oneCell'])
  have hS0 : impl_RunOfRuler.M.St w.heap.size w ((w.alloc (.cells ((List.replicate 61 0).map (Value.int .i64)).toArray 38)).alloc (.cells ((List.replicate 61 0).map (Value.int .i64)).toArray 38)) (impl_RunOfRuler.M.rows l0 0) :=
    ⟨⟨_, by simp, heap_alloc2_old _ _ _⟩, by simp [impl_RunOfRuler.M.rows_length], heap_alloc2_new _ _ _, ((Below.refl _ w).alloc (Nat.le_refl _) _).alloc (by simp) _⟩
  have hZs : ((List.replicate 61 0).map (Value.int .i64)).toArray.size = 61 := by simp
  generalize hZ : ((List.replicate 61 0).map (Value.int .i64)).toArray = Z at hz0 hb0 hst0 hS0 hZs
  have hst1 := hst0 (w.alloc (.cells Z 38))
  simp only [World.size_alloc] at hst1
  have HS := Aside0.mk hS0
  clear hZ hst0 hS0
  go_enter Try.func52, Try.ntmps52
  go_wp2
  go_loopw [11] (fun v11 wr => ∃ i : Nat, v11 = .int .i64 (i : Int) ∧ Aside0 (i ≤ l0.length) ∧ Aside0 (impl_RunOfRuler.M.St w.heap.size w wr (impl_RunOfRuler.M.rows l0 i))) (fun v11 _ => ((l0.length : Int) - intOf v11).toNat)
  case atStart => exact ⟨0, rfl, ⟨Nat.zero_le _⟩, HS⟩
  case round =>
    clear hz0 hb0 hst1 HS hZs
    obtain ⟨i, rfl, HI, HS⟩ := hrel
    by_cases hi : i < l0.length
    · have hcb : decide ((i : Int) < (l0.length : Int)) = true := decide_eq_true (by omega)
      obtain ⟨a, ha⟩ : ∃ a : Int, rd l0 (i : Int) = a := ⟨_, rfl⟩
      have hx : wr.cell? ⟨b, off + i, none⟩ = some (.int .i64 a) := by rw [← ha]; exact (HS.out.2.2.2.cell (p := ⟨b, off + i, none⟩) hbw).trans (HC.out i hi)
      have HA := Aside0.mk ha
      clear ha
      have hn : (0 : Int) ≤ i ∧ (i : Int) < (l0.length : Int) := by omega
      have hic : i ≤ c0 := by omega
      go_wp2
      have HS0 : Aside0 (impl_RunOfRuler.M.St w.heap.size w wr (impl_RunOfRuler.M.row (rd l0 (i : Int)) (impl_RunOfRuler.M.rows l0 i) ((l0.take i).take 0))) := ⟨HS.out⟩
      clear hx
      go_loopw [20] (fun v20 wr => ∃ j : Nat, v20 = .int .i64 (j : Int) ∧ Aside0 (j ≤ i) ∧ Aside0 (impl_RunOfRuler.M.St w.heap.size w wr (impl_RunOfRuler.M.row (rd l0 (i : Int)) (impl_RunOfRuler.M.rows l0 i) ((l0.take i).take j)))) (fun v20 _ => ((i : Int) - intOf v20).toNat)
      case atStart => exact ⟨0, rfl, ⟨Nat.zero_le _⟩, HS0⟩
      case round =>
        clear HS0
        obtain ⟨j, rfl, HJ, HS⟩ := hrel
        by_cases hj : j < i
        · have hcb2 : decide ((j : Int) < (i : Int)) = true := decide_eq_true (by omega)
          obtain ⟨y, hy⟩ : ∃ y : Int, rd l0 (j : Int) = y := ⟨_, rfl⟩
          have hx : wr.cell? ⟨b, off + j, none⟩ = some (.int .i64 y) := by rw [← hy]; exact (HS.out.2.2.2.cell (p := ⟨b, off + j, none⟩) hbw).trans (HC.out j (by omega))
          have hn2 : (0 : Int) ≤ j ∧ (j : Int) < (i : Int) := by omega
          obtain ⟨d, hd⟩ : ∃ d : Int, wrap64 (a - y) = d := ⟨_, rfl⟩
          have HDD := HD.out i hi j hj
          rw [hy, HA.out, hd] at HDD
          obtain ⟨hd0, hd1⟩ := HDD
          obtain ⟨hxt, hft⟩ := HS.out.cell d hd0 hd1
          have hdw : IntKind.i64.wrap (a - y) = d := (i64_w _).trans hd
          have hd2 : d < 61 := by omega
          have HS1 : Aside0 (impl_RunOfRuler.M.St w.heap.size w (wr.setCell ⟨w.heap.size + 1, d.toNat, none⟩ (.int .i64 (wrap64 (rd (impl_RunOfRuler.M.row (rd l0 (i : Int)) (impl_RunOfRuler.M.rows l0 i) ((l0.take i).take j)) d + 1)))) (impl_RunOfRuler.M.row (rd l0 (i : Int)) (impl_RunOfRuler.M.rows l0 i) ((l0.take i).take (j + 1)))) := ⟨by
            have e : (l0.take i).take (j + 1) = (l0.take i).take j ++ [rd l0 (j : Int)] := by
              have hjl : j < (l0.take i).length := by simp; omega
              rw [List.take_succ_eq_append_getElem hjl, List.getElem_take, show rd l0 (j : Int) = l0[j] by simp [rd, show j < l0.length by omega]]
            rw [e, impl_RunOfRuler.M.row_snoc, show wrap64 (rd l0 (i : Int) - rd l0 (j : Int)) = d by rw [hy, HA.out, hd]]
            exact HS.out.bump d⟩
          have HY := Aside0.mk hy
          clear hy
          generalize impl_RunOfRuler.M.row (rd l0 (i : Int)) (impl_RunOfRuler.M.rows l0 i) ((l0.take i).take j) = T at hxt HS1 HS
          obtain ⟨t, ht⟩ : ∃ t : Int, rd T d = t := ⟨_, rfl⟩
          rw [ht] at hxt HS1
          clear ht
          go_wp2
          exact ⟨⟨j + 1, by rw [Int.natCast_succ], ⟨by omega⟩, HS1⟩, by simp only [intOf]; omega⟩
        · have hcb2 : decide ((j : Int) < (i : Int)) = false := decide_eq_false (by omega)
          have hji : j = i := by have := HJ.out; omega
          have HS1 : Aside0 (impl_RunOfRuler.M.St w.heap.size w wr (impl_RunOfRuler.M.rows l0 (i + 1))) := ⟨by
            have := HS.out
            rw [hji, List.take_of_length_le (by simp; omega)] at this
            rw [impl_RunOfRuler.M.rows_succ]; exact this⟩
          clear hji HS
          go_wp2
          exact ⟨⟨i + 1, by rw [Int.natCast_succ], ⟨by omega⟩, HS1⟩, by simp only [intOf]; omega⟩
    · have hcb : decide ((i : Int) < (l0.length : Int)) = false := decide_eq_false (by omega)
      have hli : i = l0.length := by have := HI.out; omega
      have HS1 : Aside0 (impl_RunOfRuler.M.St w.heap.size w wr (impl_RunOfRuler.M.ms l0)) := ⟨by have := HS.out; rw [hli] at this; exact this⟩
      clear hli HS
      obtain ⟨hB, hg2⟩ := HS1.out.after
      have HB := Aside0.mk hB
      have HG := Aside0.mk hg2
      clear hB hg2
      have hl1 := HS1.out.load
      have hst := HS1.out.store
      have hsz : ((impl_RunOfRuler.M.ms l0).map (Value.int .i64)).toArray.size = 61 := by simp [impl_RunOfRuler.M.ms, impl_RunOfRuler.M.rows_length]
      have HZ := Aside0.mk hsz
      generalize hR : ((impl_RunOfRuler.M.ms l0).map (Value.int .i64)).toArray = R at *
      have HR := Aside0.mk hR
      clear hR
      generalize wr.setRow w.heap.size R = W2 at *
      go_wp2
      refine bodyPost_ret (v := .agg R) ?_ rfl ⟨by rw [HR.out], HB.out⟩
      exact results_cell_row rfl _ _ w.heap.size 38 R (0, 0) _ rfl HG.out impl_RunOfRuler.M.und38 rfl (by rw [impl_RunOfRuler.M.info38, HZ.out])

def impl_RunOfRuler.M.fit (l0 : List Int) : Prop := (l0.length ≤ 1000 ∧ 0 < l0.length) ∧ ∀ i, i < l0.length → ∀ j, j < i → 0 ≤ wrap64 (rd l0 (i : Int) - rd l0 (j : Int)) ∧ wrap64 (rd l0 (i : Int) - rd l0 (j : Int)) ≤ 60
instance impl_RunOfRuler.M.dec (l0 : List Int) : Decidable (impl_RunOfRuler.M.fit l0) := by unfold impl_RunOfRuler.M.fit; infer_instance
def impl_RunOfRuler.M.pick (T : List Int) (m : Bool) (k : Nat) : List Int := ((List.range k).map (fun (j : Nat) => (j : Int) + 1)).filter (fun n => decide (0 < rd T n) == m)
theorem impl_RunOfRuler.M.pick_succ (T : List Int) (m : Bool) (k : Nat) : impl_RunOfRuler.M.pick T m (k + 1) = impl_RunOfRuler.M.pick T m k ++ (if (decide (0 < rd T ((k : Int) + 1)) == m) = true then [(k : Int) + 1] else []) := by
  unfold impl_RunOfRuler.M.pick
  rw [List.range_succ, List.map_append, List.filter_append]
  simp only [List.map_cons, List.map_nil, List.filter_cons, List.filter_nil]
theorem impl_RunOfRuler.M.pick_length (T : List Int) (m : Bool) (k : Nat) : (impl_RunOfRuler.M.pick T m k).length ≤ k := by
  unfold impl_RunOfRuler.M.pick
  exact Nat.le_trans (List.length_filter_le _ _) (by simp)
def impl_RunOfRuler.l0 (T : List Int) : Nat → Int → Int
  | 0, n => n
  | k + 1, n => if n < 60 then (if 0 < rd T (n + 1) then impl_RunOfRuler.l0 T k (n + 1) else n) else n
def impl_RunOfRuler.f (k : Nat) (l0 : List Int) : Option (Int × Bool) := (impl_IsRuler.f k l0).bind fun t => if t = true then (if impl_RunOfRuler.M.fit l0 then some (impl_RunOfRuler.l0 (impl_RunOfRuler.M.ms l0) 60 0, true) else none) else some (0, false)
theorem impl_RunOfRuler.mono : ∀ a0 k, LeO (impl_RunOfRuler.f k a0) (impl_RunOfRuler.f (k + 1) a0) := by
  intro l0 k
  unfold impl_RunOfRuler.f
  intro r h
  obtain ⟨t, h1, h2⟩ := Option.bind_eq_some_iff.mp h
  exact Option.bind_eq_some_iff.mpr ⟨t, impl_IsRuler.mono _ _ _ h1, h2⟩
attribute [-go_sem] loadCellsFrom in
set_option maxRecDepth 100000 in
set_option maxHeartbeats 4000000 in
theorem impl_RunOfRuler.calls (k : Nat) (A0 : Option Addr) (c0 : Nat) (l0 : List Int) (r1 : Int) (r2 : Bool) (w : World) (hr0 : Kd.C (Kd.int .i64) w A0 l0.length l0) (hc0 : l0.length ≤ c0) (h : impl_RunOfRuler.f k l0 = some (r1, r2)) :
    Calls Try.prog 19 #[.slice A0 l0.length c0] w fun e w' => e = .returned (.tuple #[.int .i64 r1, .bool r2]) ∧ Below w.heap.size w w' := by
  obtain ⟨t, ht, h2⟩ := Option.bind_eq_some_iff.mp h
  clear h
  have HR0 := Aside0.mk hr0
  have HC0 := Aside0.mk hc0
  have HT := Aside0.mk ht
  clear hr0 ht
  cases t with
  | false =>
    have h3 := Option.some.inj ((if_neg (by simp)).symm.trans h2)
    cases h3
    clear h2
    go_enter Try.func19, Try.ntmps19
    go_wp2_with (first | (go_at_call 51; refine (impl_IsRuler.calls k _ c0 l0 false _ HR0.out HC0.out HT.out).mono ?_; rintro e w' ⟨rfl, ⟨nd, rfl⟩⟩))
    go_ret2
    exact ⟨rfl, pw_below_drewN (Below.refl _ _) _⟩
  | true =>
    rw [if_pos rfl] at h2
    have hfit : impl_RunOfRuler.M.fit l0 := by
      apply Classical.byContradiction; intro hn; simp [hn] at h2
    rw [if_pos hfit] at h2
    obtain ⟨hr1, hr2⟩ := Prod.mk.inj (Option.some.inj h2)
    subst hr2
    have HRR := Aside0.mk hr1
    clear h2 hr1
    obtain ⟨⟨hl1, hl2⟩, hd⟩ := hfit
    have HD := Aside0.mk hd
    clear hd
    have hz0 := (zero_of_info impl_RunOfRuler.M.zero38).1
    have hst0 := fun (w : World) => run_storeCells_new (P := Try.prog) w 38 ((List.replicate 61 0).map (Value.int .i64)).toArray ((impl_RunOfRuler.M.ms l0).map (Value.int .i64)).toArray (by rw [impl_RunOfRuler.M.info38]; simp [impl_RunOfRuler.M.ms, impl_RunOfRuler.M.rows_length]) (by simp [impl_RunOfRuler.M.ms, impl_RunOfRuler.M.rows_length]) (by simp [Value.oneCell'])
    have hZs : ((impl_RunOfRuler.M.ms l0).map (Value.int .i64)).toArray.size = 61 := by simp [impl_RunOfRuler.M.ms, impl_RunOfRuler.M.rows_length]
    generalize ((List.replicate 61 0).map (Value.int .i64)).toArray = Z at hz0 hst0
    obtain ⟨R, hR⟩ : ∃ R, ((impl_RunOfRuler.M.ms l0).map (Value.int .i64)).toArray = R := ⟨_, rfl⟩
    rw [hR] at hst0 hZs
    have HRT := Aside0.mk hR
    clear hR
    have HK : ∀ w1, Below w.heap.size w w1 → Calls Try.prog 52 #[.slice A0 l0.length c0] w1 fun e w' => e = .returned (.agg R) ∧ Below w1.heap.size w1 w' := fun w1 hb => by
      have := impl_RunOfRuler.M.calls A0 c0 l0 w1 (Kd.C_below HR0.out hb) HC0.out hl1 hl2 HD.out
      rw [HRT.out] at this
      exact this
    have HKK := Aside0.mk HK
    clear HK
    go_enter Try.func19, Try.ntmps19
    go_wp2_with (first | (go_at_call 51; refine (impl_IsRuler.calls k _ c0 l0 true _ HR0.out HC0.out HT.out).mono ?_; rintro e w' ⟨rfl, ⟨nd, rfl⟩⟩) | (go_at_call 52; refine (HKK.out _ (pw_below_drewN (Below.refl _ _) _)).mono ?_; rintro e w2 ⟨rfl, hb2⟩; have hst1 := hst0 w2; have HB2 := Aside0.mk hb2; clear hb2))
    have HG : Aside0 ((w2.alloc (.cells R 38)).heap[w2.heap.size]? = some (.cells R 38 (0, 0))) := ⟨heap_alloc_last _ _⟩
    have hsz2 : w.heap.size ≤ w2.heap.size := by have := HB2.out.size; simpa using this
    have HB : Aside0 (Below w.heap.size w (w2.alloc (.cells R 38))) := ⟨(below_step (pw_below_drewN (Below.refl _ _) _) HB2.out).alloc (by omega) _⟩
    clear hz0 hst0 hst1 HB2 hZs
    go_loopw [4] (fun v4 wr => ∃ (q : Nat) (n : Int), v4 = .int .i64 n ∧ Aside0 (impl_RunOfRuler.l0 (impl_RunOfRuler.M.ms l0) q n = r1) ∧ Aside0 (0 ≤ n ∧ n + q = 60) ∧ Aside0 (wr.heap[w2.heap.size]? = some (.cells R 38 (0, 0))) ∧ Aside0 (Below w.heap.size w wr)) (fun v4 _ => (61 - intOf v4).toNat)
    case atStart => exact ⟨60, 0, rfl, ⟨HRR.out⟩, ⟨by omega⟩, HG, HB⟩
    case round =>
      clear HG HB
      obtain ⟨q, n, rfl, HN, HQ, HG, HB⟩ := hrel
      cases q with
      | zero =>
        have hn60 : n = 60 := by have := HQ.out; omega
        have hcb : decide (n < 60) = false := decide_eq_false (by omega)
        have hnn : ¬ n < 60 := by omega
        have e : Aside0 (n = r1) := ⟨HN.out⟩
        clear hn60
        go_wp2
        go_ret2
        exact ⟨by rw [e.out]; rfl, HB.out⟩
      | succ q =>
        have hnn : (0 : Int) ≤ n + 1 ∧ n + 1 < 61 := by have := HQ.out; omega
        have hn60 : n < 60 := by have := HQ.out; omega
        have hn0 : 0 ≤ n := HQ.out.1
        have hcb : decide (n < 60) = true := decide_eq_true hn60
        obtain ⟨x, hx⟩ : ∃ x : Int, rd (impl_RunOfRuler.M.ms l0) (n + 1) = x := ⟨_, rfl⟩
        have hcell : wr.cell? ⟨w2.heap.size, (n + 1).toNat, none⟩ = some (.int .i64 x) := by
          rw [cell_of_row _ _ _ _ _ _ HG.out, ← HRT.out]
          have : (n + 1).toNat < (impl_RunOfRuler.M.ms l0).length := by rw [impl_RunOfRuler.M.ms, impl_RunOfRuler.M.rows_length]; omega
          rw [← hx]
          simp [rd, this]
        have hw1 : wrap64 (n + 1) = n + 1 := by unfold wrap64; omega
        have hq : 0 ≤ n + 1 ∧ n + 1 + (q : Int) = 60 := by have := HQ.out; omega
        have HN' := HN.out
        rw [impl_RunOfRuler.l0, if_pos hn60, hx] at HN'
        clear hx HN
        obtain ⟨m, hm⟩ : ∃ m : Int, n + 1 = m := ⟨_, rfl⟩
        have hmw : IntKind.i64.wrap (n + 1) = m := (i64_w _).trans (hw1.trans hm)
        rw [hm] at hnn hcell hw1 hq HN'
        by_cases hx0 : 0 < x
        · rw [if_pos hx0] at HN'
          have hxb : decide (0 < x) = true := decide_eq_true hx0
          have HN2 := Aside0.mk HN'
          have HQ2 := Aside0.mk hq
          have HM := Aside0.mk hm
          clear HN' hq hm
          go_wp2
          exact ⟨⟨q, m, rfl, HN2, HQ2, HG, HB⟩, by have := HM.out; simp only [intOf]; omega⟩
        · rw [if_neg hx0] at HN'
          have hxb : decide (0 < x) = false := decide_eq_false hx0
          have HN2 := Aside0.mk HN'
          clear HN' hq hm HQ
          go_wp2
          go_ret2
          exact ⟨by rw [HN2.out]; rfl, HB.out⟩

end Go.Proofs.Ytlkgojgmgdeieaa.G
