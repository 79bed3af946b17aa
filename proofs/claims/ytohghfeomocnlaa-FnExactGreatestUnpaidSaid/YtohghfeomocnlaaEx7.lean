/- Functions of the program and of the reference as Lean functions, and the contracts of their calls: laid by a program of this repo (wip/gen.py), in part by hand. -/
import Derived.Test.YtohghfeomocnlaaEx0
import Derived.Test.YtohghfeomocnlaaEx6
namespace Go.Proofs.Ytohghfeomocnlaa.E
open Go.RowKit Go.Proofs.YtohghfeomocnlaaW.PrintWords Go.Proofs.YtohghfeomocnlaaW.PrintLast Go.Proofs.YtohghfeomocnlaaW.PrintMore
attribute [local go_sem] max2_int min2_int max_two min_two max_three min_three max_four min_four   -- for this text's walks alone
set_option linter.unusedVariables false
set_option linter.unusedSimpArgs false

/-! ### impl_residues: function 52 -/
mutual
def impl_residues.l0 : Nat → List Int → Int → List Int → Int → Int → Option (List Int × Bool)
  | 0, _, _, _, _, _ => none
  | k + 1, x0, x4, x17, x18, x19 => if x19 < x18 then (if 0 ≤ x19 then (if x19 < (x17.length : Int) then ((impl_gcd.f k x4 (rd x17 x19)).bind fun t151 => (impl_residues.l0 k x0 t151 x17 x18 (wrap64 (x19 + 1)))) else (none)) else (none)) else (if x4 = 1 then (if 0 < (x0.length : Int) then (if 0 ≤ (rd x0 0) then (if (rd x0 0 : Int).toNat ≤ 35184372088832 then ((some (List.replicate (rd x0 0 : Int).toNat 0 : List Int)).bind fun y153 => (impl_residues.l1 k x0 y153 (y153.length : Int) 0)) else (none)) else (none)) else (none)) else (some (([] : List Int), false)))
def impl_residues.l1 : Nat → List Int → List Int → Int → Int → Option (List Int × Bool)
  | 0, _, _, _, _ => none
  | k + 1, x0, x7, x34, x35 => if x35 < x34 then (if 0 ≤ x35 then (if x35 < (x7.length : Int) then (impl_residues.l1 k x0 (x7.set (x35 : Int).toNat 1099511627776) x34 (wrap64 (x35 + 1))) else (none)) else (none)) else (if 0 < (x7.length : Int) then (impl_residues.l2 k x0 (x7.set (0 : Int).toNat 0) true) else (none))
def impl_residues.l2 : Nat → List Int → List Int → Bool → Option (List Int × Bool)
  | 0, _, _, _ => none
  | k + 1, x0, x7, x9 => if x9 = true then (impl_residues.l3 k x0 x7 false (x7.length : Int) 0) else (some (x7, true))
def impl_residues.l3 : Nat → List Int → List Int → Bool → Int → Int → Option (List Int × Bool)
  | 0, _, _, _, _, _ => none
  | k + 1, x0, x7, x9, x46, x47 => if x47 < x46 then (impl_residues.l4 k x0 x7 x9 x47 x46 x47 x0 (x0.length : Int) 0) else (impl_residues.l2 k x0 x7 x9)
def impl_residues.l4 : Nat → List Int → List Int → Bool → Int → Int → Int → List Int → Int → Int → Option (List Int × Bool)
  | 0, _, _, _, _, _, _, _, _, _ => none
  | k + 1, x0, x7, x9, x10, x46, x47, x50, x51, x52 => if x52 < x51 then (if 0 ≤ x52 then (if x52 < (x50.length : Int) then (if 0 ≤ x10 then (if x10 < (x7.length : Int) then (if 0 < (x0.length : Int) then (if (rd x0 0) = 0 then (none) else (if 0 ≤ (Int.tmod (wrap64 ((rd x7 x10) + (rd x50 x52))) (rd x0 0)) then (if (Int.tmod (wrap64 ((rd x7 x10) + (rd x50 x52))) (rd x0 0)) < (x7.length : Int) then (if (wrap64 ((rd x7 x10) + (rd x50 x52))) < (rd x7 (Int.tmod (wrap64 ((rd x7 x10) + (rd x50 x52))) (rd x0 0))) then (impl_residues.l4 k x0 (x7.set ((Int.tmod (wrap64 ((rd x7 x10) + (rd x50 x52))) (rd x0 0)) : Int).toNat (wrap64 ((rd x7 x10) + (rd x50 x52)))) true x10 x46 x47 x50 x51 (wrap64 (x52 + 1))) else (impl_residues.l4 k x0 x7 x9 x10 x46 x47 x50 x51 (wrap64 (x52 + 1)))) else (none)) else (none))) else (none)) else (none)) else (none)) else (none)) else (none)) else (impl_residues.l3 k x0 x7 x9 x46 (wrap64 (x47 + 1)))
end
def impl_residues.f (k : Nat) (l0 : List Int) : Option (List Int × Bool) := (impl_AreCoins.f k l0).bind fun t149 => (if t149 = true then (impl_residues.l0 k l0 0 l0 (l0.length : Int) 0) else (some (([] : List Int), false)))
theorem impl_residues.mono_l : ∀ k, (∀ y0 y1 y2 y3 y4, LeO (impl_residues.l0 k y0 y1 y2 y3 y4) (impl_residues.l0 (k + 1) y0 y1 y2 y3 y4)) ∧ (∀ y0 y1 y2 y3, LeO (impl_residues.l1 k y0 y1 y2 y3) (impl_residues.l1 (k + 1) y0 y1 y2 y3)) ∧ (∀ y0 y1 y2, LeO (impl_residues.l2 k y0 y1 y2) (impl_residues.l2 (k + 1) y0 y1 y2)) ∧ (∀ y0 y1 y2 y3 y4, LeO (impl_residues.l3 k y0 y1 y2 y3 y4) (impl_residues.l3 (k + 1) y0 y1 y2 y3 y4)) ∧ (∀ y0 y1 y2 y3 y4 y5 y6 y7 y8, LeO (impl_residues.l4 k y0 y1 y2 y3 y4 y5 y6 y7 y8) (impl_residues.l4 (k + 1) y0 y1 y2 y3 y4 y5 y6 y7 y8))
  | 0 => ⟨fun _ _ _ _ _ r h => by simp [impl_residues.l0] at h, fun _ _ _ _ r h => by simp [impl_residues.l1] at h, fun _ _ _ r h => by simp [impl_residues.l2] at h, fun _ _ _ _ _ r h => by simp [impl_residues.l3] at h, fun _ _ _ _ _ _ _ _ _ r h => by simp [impl_residues.l4] at h⟩
  | k + 1 => by
    obtain ⟨ih0, ih1, ih2, ih3, ih4⟩ := impl_residues.mono_l k
    refine ⟨?_, ?_, ?_, ?_, ?_⟩
    · intro y0 y1 y2 y3 y4
      unfold impl_residues.l0
      repeat' first
      | (with_reducible exact ih0 _ _ _ _ _)
      | (with_reducible exact ih1 _ _ _ _)
      | (with_reducible exact ih2 _ _ _)
      | (with_reducible exact ih3 _ _ _ _ _)
      | (with_reducible exact ih4 _ _ _ _ _ _ _ _ _)
      | (with_reducible exact impl_AreCoins.mono _ _)
      | (with_reducible exact impl_gcd.mono _ _ _)
      | (with_reducible exact LeO.refl _)
      | (with_reducible exact LeO.none _)
      | (with_reducible refine LeO.ite ?_ ?_)
      | (with_reducible refine LeO.bind ?_ (fun _ => ?_))
      | exact ih0 _ _ _ _ _
      | exact ih1 _ _ _ _
      | exact ih2 _ _ _
      | exact ih3 _ _ _ _ _
      | exact ih4 _ _ _ _ _ _ _ _ _
      | exact impl_AreCoins.mono _ _
      | exact impl_gcd.mono _ _ _
      | exact LeO.none _
      | refine LeO.ite ?_ ?_
      | refine LeO.bind ?_ (fun _ => ?_)
    · intro y0 y1 y2 y3
      unfold impl_residues.l1
      repeat' first
      | (with_reducible exact ih0 _ _ _ _ _)
      | (with_reducible exact ih1 _ _ _ _)
      | (with_reducible exact ih2 _ _ _)
      | (with_reducible exact ih3 _ _ _ _ _)
      | (with_reducible exact ih4 _ _ _ _ _ _ _ _ _)
      | (with_reducible exact impl_AreCoins.mono _ _)
      | (with_reducible exact impl_gcd.mono _ _ _)
      | (with_reducible exact LeO.refl _)
      | (with_reducible exact LeO.none _)
      | (with_reducible refine LeO.ite ?_ ?_)
      | (with_reducible refine LeO.bind ?_ (fun _ => ?_))
      | exact ih0 _ _ _ _ _
      | exact ih1 _ _ _ _
      | exact ih2 _ _ _
      | exact ih3 _ _ _ _ _
      | exact ih4 _ _ _ _ _ _ _ _ _
      | exact impl_AreCoins.mono _ _
      | exact impl_gcd.mono _ _ _
      | exact LeO.none _
      | refine LeO.ite ?_ ?_
      | refine LeO.bind ?_ (fun _ => ?_)
    · intro y0 y1 y2
      unfold impl_residues.l2
      repeat' first
      | (with_reducible exact ih0 _ _ _ _ _)
      | (with_reducible exact ih1 _ _ _ _)
      | (with_reducible exact ih2 _ _ _)
      | (with_reducible exact ih3 _ _ _ _ _)
      | (with_reducible exact ih4 _ _ _ _ _ _ _ _ _)
      | (with_reducible exact impl_AreCoins.mono _ _)
      | (with_reducible exact impl_gcd.mono _ _ _)
      | (with_reducible exact LeO.refl _)
      | (with_reducible exact LeO.none _)
      | (with_reducible refine LeO.ite ?_ ?_)
      | (with_reducible refine LeO.bind ?_ (fun _ => ?_))
      | exact ih0 _ _ _ _ _
      | exact ih1 _ _ _ _
      | exact ih2 _ _ _
      | exact ih3 _ _ _ _ _
      | exact ih4 _ _ _ _ _ _ _ _ _
      | exact impl_AreCoins.mono _ _
      | exact impl_gcd.mono _ _ _
      | exact LeO.none _
      | refine LeO.ite ?_ ?_
      | refine LeO.bind ?_ (fun _ => ?_)
    · intro y0 y1 y2 y3 y4
      unfold impl_residues.l3
      repeat' first
      | (with_reducible exact ih0 _ _ _ _ _)
      | (with_reducible exact ih1 _ _ _ _)
      | (with_reducible exact ih2 _ _ _)
      | (with_reducible exact ih3 _ _ _ _ _)
      | (with_reducible exact ih4 _ _ _ _ _ _ _ _ _)
      | (with_reducible exact impl_AreCoins.mono _ _)
      | (with_reducible exact impl_gcd.mono _ _ _)
      | (with_reducible exact LeO.refl _)
      | (with_reducible exact LeO.none _)
      | (with_reducible refine LeO.ite ?_ ?_)
      | (with_reducible refine LeO.bind ?_ (fun _ => ?_))
      | exact ih0 _ _ _ _ _
      | exact ih1 _ _ _ _
      | exact ih2 _ _ _
      | exact ih3 _ _ _ _ _
      | exact ih4 _ _ _ _ _ _ _ _ _
      | exact impl_AreCoins.mono _ _
      | exact impl_gcd.mono _ _ _
      | exact LeO.none _
      | refine LeO.ite ?_ ?_
      | refine LeO.bind ?_ (fun _ => ?_)
    · intro y0 y1 y2 y3 y4 y5 y6 y7 y8
      unfold impl_residues.l4
      repeat' first
      | (with_reducible exact ih0 _ _ _ _ _)
      | (with_reducible exact ih1 _ _ _ _)
      | (with_reducible exact ih2 _ _ _)
      | (with_reducible exact ih3 _ _ _ _ _)
      | (with_reducible exact ih4 _ _ _ _ _ _ _ _ _)
      | (with_reducible exact impl_AreCoins.mono _ _)
      | (with_reducible exact impl_gcd.mono _ _ _)
      | (with_reducible exact LeO.refl _)
      | (with_reducible exact LeO.none _)
      | (with_reducible refine LeO.ite ?_ ?_)
      | (with_reducible refine LeO.bind ?_ (fun _ => ?_))
      | exact ih0 _ _ _ _ _
      | exact ih1 _ _ _ _
      | exact ih2 _ _ _
      | exact ih3 _ _ _ _ _
      | exact ih4 _ _ _ _ _ _ _ _ _
      | exact impl_AreCoins.mono _ _
      | exact impl_gcd.mono _ _ _
      | exact LeO.none _
      | refine LeO.ite ?_ ?_
      | refine LeO.bind ?_ (fun _ => ?_)
theorem impl_residues.mono : ∀ a0 k, LeO (impl_residues.f k a0) (impl_residues.f (k + 1) a0) := by
  intro a0 k
  obtain ⟨ih0, ih1, ih2, ih3, ih4⟩ := impl_residues.mono_l k
  unfold impl_residues.f
  repeat' first
      | (with_reducible exact ih0 _ _ _ _ _)
      | (with_reducible exact ih1 _ _ _ _)
      | (with_reducible exact ih2 _ _ _)
      | (with_reducible exact ih3 _ _ _ _ _)
      | (with_reducible exact ih4 _ _ _ _ _ _ _ _ _)
      | (with_reducible exact impl_AreCoins.mono _ _)
      | (with_reducible exact impl_gcd.mono _ _ _)
      | (with_reducible exact LeO.refl _)
      | (with_reducible exact LeO.none _)
      | (with_reducible refine LeO.ite ?_ ?_)
      | (with_reducible refine LeO.bind ?_ (fun _ => ?_))
      | exact ih0 _ _ _ _ _
      | exact ih1 _ _ _ _
      | exact ih2 _ _ _
      | exact ih3 _ _ _ _ _
      | exact ih4 _ _ _ _ _ _ _ _ _
      | exact impl_AreCoins.mono _ _
      | exact impl_gcd.mono _ _ _
      | exact LeO.none _
      | refine LeO.ite ?_ ?_
      | refine LeO.bind ?_ (fun _ => ?_)
set_option maxHeartbeats 8000000 in
set_option maxRecDepth 100000 in
theorem impl_residues.calls (k : Nat) (A0 : Option Addr) (c0 : Nat) (l0 : List Int) (r1 : List Int) (r2 : Bool) (w : World) (hr0 : Kd.C (Kd.int .i64) w A0 l0.length l0) (hc0 : l0.length ≤ c0) (h : impl_residues.f k l0 = some (r1, r2)) :
    Calls Try.prog 52 #[.slice A0 l0.length c0] w fun e w' => ∃ v0_ : Value, e = .returned (.tuple #[v0_, .bool r2]) ∧ Kd.R (Kd.int .i64) 3 w' w.heap.size (fun _ => True) v0_ r1 ∧ Below w.heap.size w w' := by
  have HR0 := Aside0.mk hr0
  have HC0 := Aside0.mk hc0
  clear hr0 hc0
  have HB := Aside0.mk (Below.refl w.heap.size w)
  have H : ((impl_AreCoins.f k l0).bind fun t149 => (if t149 = true then (impl_residues.l0 k l0 0 l0 (l0.length : Int) 0) else (some (([] : List Int), false)))) = some (r1, r2) := h
  clear h
  replace H := Option.bind_eq_some_iff.mp H
  obtain ⟨t149, A20, H⟩ := H
  replace H : (if t149 = true then (impl_residues.l0 k l0 0 l0 (l0.length : Int) 0) else (some (([] : List Int), false))) = some (r1, r2) := H
  have A2 := Aside0.mk A20
  clear A20
  by_cases c3 : t149 = true
  · subst c3
    have H1 : (impl_residues.l0 k l0 0 l0 (l0.length : Int) 0) = some (r1, r2) := by rw [if_pos rfl] at H; exact H
    clear H
    have H := H1
    clear H1
    have H' := Aside0.mk H
    clear H
    go_enter Try.func52, Try.ntmps52
    go_wp2_with (first | ((with_reducible refine gate_callee (f := 15) rfl ?_); refine goesL_ (some 15) rfl rfl Try.func15 (by kernel_rfl) rfl #[.slice A0 l0.length c0] rfl (by (try simp only [List.map_toArray, List.map_cons, List.map_nil]); first | done | rfl | (simp only [List.length_drop, List.length_take]; rfl)) ?_; (with_reducible refine (impl_AreCoins.calls k _ _ l0 true _ ?side1 ?side2 A2.out).mono ?_); (case side1 => repeat (first | exact HR0.out | (with_reducible refine Kd.C_alloc ?_ _) | (with_reducible refine Kd.C_drewN ?_ _) | (with_reducible refine Kd.C_drew ?_))); (case side2 => exact HC0.out); rintro e w4 ⟨rfl, hb⟩; refine ⟨_, rfl, ?_⟩; have n0_ := Aside0.mk (below_step (by repeat (first | (with_reducible first | exact HB.out | apply below_alloc | apply pw_below_drewN | apply below_drew1) | exact HB.out)) hb); clear HB; have HB := n0_; clear n0_; (try clear hb); (try clear hb2); (try clear hk); (try clear hi)))
    go_loopg [4, 19] k (fun kq v4 v19 w' => ∃ (x4_1 : Int) (x19_1 : Int), v4 = .int .i64 x4_1 ∧ v19 = .int .i64 x19_1 ∧ Aside0 (impl_residues.l0 kq l0 x4_1 l0 (l0.length : Int) x19_1 = some (r1, r2)) ∧ Aside0 (kq ≤ k) ∧ Aside0 (Below w.heap.size w w'))
    case atStart => exact ⟨(0), (0), (by first | rfl | (simp; done) | (simp [*]; done)), (by first | rfl | (simp; done) | (simp [*]; done)), H', ⟨Nat.le_refl _⟩, ⟨by repeat (first | (with_reducible first | exact HB.out | apply below_alloc | apply pw_below_drewN | apply below_drew1) | exact HB.out)⟩⟩
    case round =>
      clear H'
      try clear c1
      try clear p2
      try clear c3
      obtain ⟨x4_1, x19_1, rfl, rfl, HA, HK1, HB⟩ := hrel
      cases gk with
      | zero => exact absurd HA.out (by simp [impl_residues.l0])
      | succ k1 =>
        have H := HA.out
        clear HA
        simp only [impl_residues.l0] at H
        by_cases c5 : x19_1 < (l0.length : Int)
        · rw [if_pos c5] at H
          have c5b0 : decide (x19_1 < (l0.length : Int)) = true := decide_eq_true c5
          clear c5
          by_cases c6 : 0 ≤ x19_1
          · rw [if_pos c6] at H
            have c6b0 : decide (0 ≤ x19_1) = true := decide_eq_true c6
            clear c6
            by_cases c7 : x19_1 < (l0.length : Int)
            · rw [if_pos c7] at H
              have c7b0 : decide (x19_1 < (l0.length : Int)) = true := decide_eq_true c7
              clear c7
              replace H := Option.bind_eq_some_iff.mp H
              obtain ⟨t151, A80, H⟩ := H
              replace H : (impl_residues.l0 k1 l0 t151 l0 (l0.length : Int) (wrap64 (x19_1 + 1))) = some (r1, r2) := H
              have A8 := Aside0.mk A80
              clear A80
              have H' := Aside0.mk H
              clear H
              have p150 : 0 ≤ (x19_1 : Int) := of_decide_eq_true (by first | (with_reducible assumption) | assumption)
              have q150 : x19_1 < (l0.length : Int) := of_decide_eq_true (by first | (with_reducible assumption) | assumption)
              obtain ⟨ad150, e150, hx150_0⟩ := Kd.at_int HR0.out x19_1 p150 q150
              cases e150
              (try replace hx150_0 := (HB.out.cell (World.block_lt_of_cell? w _ hx150_0)).trans hx150_0)
              replace p150 := eq_true p150
              replace q150 := eq_true q150
              go_wp2_with (first | ((with_reducible refine gate_callee (f := 48) rfl ?_); refine goesL_ (some 25) rfl rfl Try.func48 (by kernel_rfl) rfl #[.int .i64 x4_1, .int .i64 (rd l0 x19_1)] rfl (by (try simp only [List.map_toArray, List.map_cons, List.map_nil]); first | done | rfl | (simp only [List.length_drop, List.length_take]; rfl)) ?_; (with_reducible refine (impl_gcd.calls k1 x4_1 (rd l0 x19_1) t151 _ A8.out).mono ?_); rintro e w' ⟨rfl, ⟨nd, rfl⟩⟩; refine ⟨_, rfl, ?_⟩))
              go_roundg k1
              case measure => have := HK1.out; omega
              case rel => exact ⟨(t151), (wrap64 (x19_1 + 1)), (by first | rfl | (simp; done) | (simp [*]; done)), (by first | rfl | (simp; done) | (simp [*]; done)), H', ⟨by have := HK1.out; omega⟩, ⟨by repeat (first | (with_reducible first | exact HB.out | apply below_alloc | apply pw_below_drewN | apply below_drew1) | exact HB.out)⟩⟩
            · rw [if_neg c7] at H
              exact absurd H (by simp)
          · rw [if_neg c6] at H
            exact absurd H (by simp)
        · rw [if_neg c5] at H
          have c5b0 : decide (x19_1 < (l0.length : Int)) = false := decide_eq_false c5
          clear c5
          by_cases c9 : x4_1 = 1
          · rw [if_pos c9] at H
            have c9b0 : (x4_1 == 1) = true := beq_iff_eq.mpr c9
            have c9b1 : (x4_1 != 1) = false := bne_eq_false_iff_eq.mpr c9
            clear c9
            by_cases c10 : 0 < (l0.length : Int)
            · rw [if_pos c10] at H
              have c10b0 : decide (0 < (l0.length : Int)) = true := decide_eq_true c10
              have c10b1 : decide (0 < l0.length) = true := decide_eq_true (by omega)
              clear c10
              by_cases c11 : 0 ≤ (rd l0 0)
              · rw [if_pos c11] at H
                have c11b0 := eq_true c11
                have c11b1 : decide (0 ≤ (rd l0 0)) = true := decide_eq_true c11
                clear c11
                by_cases c12 : (rd l0 0 : Int).toNat ≤ 35184372088832
                · rw [if_pos c12] at H
                  have c12b0 := eq_true c12
                  have c12b1 : decide ((rd l0 0 : Int).toNat ≤ 35184372088832) = true := decide_eq_true c12
                  clear c12
                  obtain ⟨y153, hy153⟩ : ∃ y_ : List Int, y_ = (List.replicate (rd l0 0 : Int).toNat 0) := ⟨_, rfl⟩
                  replace H : (impl_residues.l1 k1 l0 y153 (y153.length : Int) 0) = some (r1, r2) := by first | (rw [hy153]; with_reducible exact H) | (have H2_ := (Option.bind_some _ _).symm.trans H; rw [hy153]; with_reducible exact H2_) | (have H2_ := (Option.bind_some _ _).symm.trans H; with_reducible exact H2_) | with_reducible exact H | (rw [hy153]; exact H) | exact H
                  have Ny153 := Aside0.mk hy153
                  clear hy153
                  have H' := Aside0.mk H
                  clear H
                  have p152 : 0 ≤ (0 : Int) := (by omega)
                  have q152 : 0 < (l0.length : Int) := of_decide_eq_true (by first | (with_reducible assumption) | assumption)
                  obtain ⟨ad152, e152, hx152_0⟩ := Kd.at_int HR0.out 0 p152 q152
                  cases e152
                  have qi152 : (0 < l0.length) = True := eq_true (by omega)
                  (try rw [show ((0 : Int)).toNat = 0 from rfl] at hx152_0)
                  (try rw [Addr.add_zero'] at hx152_0)
                  (try replace hx152_0 := (HB.out.cell (World.block_lt_of_cell? w _ hx152_0)).trans hx152_0)
                  replace p152 := eq_true p152
                  replace q152 := eq_true q152
                  go_wp2_with (first | ((with_reducible refine gate_dst (N := 32) rfl ?_); refine Kd.R_make (Kd.int .i64) _ 3 rfl (N := 32) rfl 22 _ _ rfl (rd l0 0) rfl rfl Try.underlying22 (.int .i64 0) 8 info3 rfl (by decide) (by omega) 0 (ok := fun _ => True) (okp := fun _ => True) rfl (fun _ hk => hk) trivial (of_decide_eq_true (by first | (with_reducible assumption) | assumption)) (Nat.le_trans (Nat.mul_le_mul_right _ (of_decide_eq_true (by first | (with_reducible assumption) | assumption) : (rd l0 0).toNat ≤ 35184372088832)) (by omega)) (Below.refl _ _) (Nat.le_refl _) ?_; intro v154 w13 ho14 hb hg_ hnew_; clear hg_ hnew_; (first | rw [← Ny153.out] at ho14 | (simp only [Int.reduceToNat] at ho14; rw [← Ny153.out] at ho14)); have n0_ := Aside0.mk (Kd.R_lower ho14 (below_size (by repeat (first | (with_reducible first | exact HB.out | apply below_alloc | apply pw_below_drewN | apply below_drew1) | exact HB.out)))); have n1_ := Aside0.mk (below_step (by repeat (first | (with_reducible first | exact HB.out | apply below_alloc | apply pw_below_drewN | apply below_drew1) | exact HB.out)) hb); clear HB; have HO155 := n0_; have HB := n1_; clear n0_ n1_; clear hb ho14; obtain ⟨Ao15, co15, eo15⟩ := Kd.R_slice HO155.out; subst eo15))
                  go_loopg [35] k1 (fun kq v35 w' => ∃ (x7_2 : List Int) (x35_2 : Int), v35 = .int .i64 x35_2 ∧ Aside0 (impl_residues.l1 kq l0 x7_2 (y153.length : Int) x35_2 = some (r1, r2)) ∧ Aside0 (kq ≤ k1) ∧ Aside0 (Kd.R (Kd.int .i64) 3 w' w.heap.size (fun _ => True) (.slice Ao15 y153.length co15) x7_2) ∧ Aside0 (Below w.heap.size w w'))
                  case atStart => exact ⟨(y153), (0), (by first | rfl | (simp; done) | (simp [*]; done)), H', ⟨Nat.le_refl _⟩, ⟨by (with_reducible repeat (first | apply Kd.R_alloc | apply Kd.R_drewN | apply Kd.R_drew)); exact HO155.out⟩, ⟨by repeat (first | (with_reducible first | exact HB.out | apply below_alloc | apply pw_below_drewN | apply below_drew1) | exact HB.out)⟩⟩
                  case round =>
                    clear H'
                    try clear c1
                    try clear p1
                    try clear q1
                    try clear hx1
                    try clear qi1
                    try clear p2
                    try clear c3
                    try clear c4
                    try clear c5
                    try clear c5b0
                    try clear c6
                    try clear c6b0
                    try clear p6
                    try clear c7
                    try clear c7b0
                    try clear c9
                    try clear c9b0
                    try clear c9b1
                    try clear c10
                    try clear c10b0
                    try clear c10b1
                    try clear c11
                    try clear c11b0
                    try clear c11b1
                    try clear c12
                    try clear c12b0
                    try clear c12b1
                    try clear c15
                    try clear p15
                    try clear q15
                    try clear hx15
                    try clear qi15
                    try clear hx150_0
                    try clear hx152_0
                    try clear p150
                    try clear p152
                    try clear p2
                    try clear q150
                    try clear q152
                    obtain ⟨x7_2, x35_2, rfl, HA, HK2, HO_7, HB⟩ := hrel
                    have hl7_2 := (Kd.R_reads' HO_7.out).1
                    rw [hl7_2] at HO_7
                    (try simp only [hl7_2])
                    cases gk with
                    | zero => exact absurd HA.out (by simp [impl_residues.l1])
                    | succ k2 =>
                      have H := HA.out
                      clear HA
                      simp only [impl_residues.l1] at H
                      by_cases c16 : x35_2 < (y153.length : Int)
                      · rw [if_pos c16] at H
                        have c16b0 : decide (x35_2 < (y153.length : Int)) = true := decide_eq_true c16
                        have c16b0x := c16b0
                        (try simp only [hl7_2] at c16b0x)
                        clear c16
                        by_cases c17 : 0 ≤ x35_2
                        · rw [if_pos c17] at H
                          have c17b0 : decide (0 ≤ x35_2) = true := decide_eq_true c17
                          clear c17
                          by_cases c18 : x35_2 < (x7_2.length : Int)
                          · rw [if_pos c18] at H
                            have c18b0 : decide (x35_2 < (x7_2.length : Int)) = true := decide_eq_true c18
                            have c18b0x := c18b0
                            (try simp only [hl7_2] at c18b0x)
                            clear c18
                            obtain ⟨y156, hy156⟩ : ∃ y_ : List Int, y_ = (x7_2.set (x35_2 : Int).toNat 1099511627776) := ⟨_, rfl⟩
                            replace H : (impl_residues.l1 k2 l0 y156 (y153.length : Int) (wrap64 (x35_2 + 1))) = some (r1, r2) := by first | (rw [hy156]; with_reducible exact H) | (have H2_ := (Option.bind_some _ _).symm.trans H; rw [hy156]; with_reducible exact H2_) | (have H2_ := (Option.bind_some _ _).symm.trans H; with_reducible exact H2_) | with_reducible exact H | (rw [hy156]; exact H) | exact H
                            have Ny156 := Aside0.mk hy156
                            clear hy156
                            have H' := Aside0.mk H
                            clear H
                            have p19 : 0 ≤ (x35_2 : Int) := of_decide_eq_true (by first | (with_reducible assumption) | assumption)
                            have q19 : (x35_2 : Int) < ((x7_2.length : Int) : Int) := of_decide_eq_true (by first | (with_reducible assumption) | assumption)
                            obtain ⟨go19, co19, eo19, gb19, gl19, cl19, HG19⟩ := Kd.R_form HO_7.out (by omega)
                            (first | cases eo19 | (injection eo19 with ea_ en_ ec_; (first | subst ea_ | (injection ea_ with ea_; subst ea_)); subst ec_; clear en_))
                            have GB19 := Aside0.mk gb19
                            have GG19 := Aside0.mk HG19
                            clear gb19 gl19 HG19
                            obtain ⟨hx19_0, hf19_0⟩ := Kd.R_celln 0 HO_7.out (x35_2 : Int) p19 q19
                            replace p19 := eq_true p19
                            replace q19 := eq_true q19
                            have HP20 := Kd.R_putg HO_7.out (x35_2 : Int) 1099511627776
                            go_wp2_with (first | ((with_reducible refine gate_store (t := 3) (p := 40) rfl ?_); refine store_event (t := 3) (p := 40) (v := ?vo_w21) (w1 := (wr.setCell ⟨go19, (x35_2 : Int).toNat, none⟩ (.int .i64 1099511627776))) ?hg ?ho ?hn ?hr ?_; (case ho => rfl); (case hg => rfl); (case hn => rfl); (case hr => first | (go_simp; done) | (go_simp; rfl)); intro w21 hw; have hg : wr.grownBy w21 (some go19) := (by rw [hw]; exact HP20.2); have hp_ : Kd.R (Kd.int .i64) 3 w21 w.heap.size (fun _ => True) (.slice (some ⟨go19, 0, none⟩) x7_2.length co15) y156 := (by rw [hw, Ny156.out]; exact HP20.1); clear HP20; have n0_ := Aside0.mk (hp_); have n1_ := Aside0.mk ((by rw [hw]; exact below_set (HB.out) GB19.out : Below w.heap.size w w21)); clear HO_7; clear HB; have HO_7 := n0_; have HB := n1_; clear n0_ n1_; clear hg hw hp_))
                            (try simp only [← hl7_2])
                            go_roundg k2
                            case measure => have := HK1.out; have := HK2.out; omega
                            case rel => exact ⟨(y156), (wrap64 (x35_2 + 1)), (by first | rfl | (simp; done) | (simp [*]; done)), H', ⟨by have := HK1.out; have := HK2.out; omega⟩, ⟨by (try simp only [hl7_2]); (with_reducible repeat (first | apply Kd.R_alloc | apply Kd.R_drewN | apply Kd.R_drew)); exact HO_7.out⟩, ⟨by repeat (first | (with_reducible first | exact HB.out | apply below_alloc | apply pw_below_drewN | apply below_drew1) | exact HB.out)⟩⟩
                          · rw [if_neg c18] at H
                            exact absurd H (by simp)
                        · rw [if_neg c17] at H
                          exact absurd H (by simp)
                      · rw [if_neg c16] at H
                        have c16b0 : decide (x35_2 < (y153.length : Int)) = false := decide_eq_false c16
                        have c16b0x := c16b0
                        (try simp only [hl7_2] at c16b0x)
                        clear c16
                        by_cases c22 : 0 < (x7_2.length : Int)
                        · rw [if_pos c22] at H
                          have c22b0 : decide (0 < (x7_2.length : Int)) = true := decide_eq_true c22
                          have c22b0x := c22b0
                          (try simp only [hl7_2] at c22b0x)
                          have c22b1 : decide (0 < x7_2.length) = true := decide_eq_true (by omega)
                          clear c22
                          obtain ⟨y157, hy157⟩ : ∃ y_ : List Int, y_ = (x7_2.set (0 : Int).toNat 0) := ⟨_, rfl⟩
                          replace H : (impl_residues.l2 k2 l0 y157 true) = some (r1, r2) := by first | (rw [hy157]; with_reducible exact H) | (have H2_ := (Option.bind_some _ _).symm.trans H; rw [hy157]; with_reducible exact H2_) | (have H2_ := (Option.bind_some _ _).symm.trans H; with_reducible exact H2_) | with_reducible exact H | (rw [hy157]; exact H) | exact H
                          have Ny157 := Aside0.mk hy157
                          clear hy157
                          have H' := Aside0.mk H
                          clear H
                          have p23 : 0 ≤ (0 : Int) := (by omega)
                          have q23 : (0 : Int) < ((x7_2.length : Int) : Int) := of_decide_eq_true (by first | (with_reducible assumption) | assumption)
                          have qi23 : (0 < x7_2.length) = True := eq_true (by omega)
                          obtain ⟨go23, co23, eo23, gb23, gl23, cl23, HG23⟩ := Kd.R_form HO_7.out (by omega)
                          (first | cases eo23 | (injection eo23 with ea_ en_ ec_; (first | subst ea_ | (injection ea_ with ea_; subst ea_)); subst ec_; clear en_))
                          have GB23 := Aside0.mk gb23
                          have GG23 := Aside0.mk HG23
                          clear gb23 gl23 HG23
                          obtain ⟨hx23_0, hf23_0⟩ := Kd.R_celln 0 HO_7.out (0 : Int) p23 q23
                          (try rw [show ((0 : Int)).toNat = 0 from rfl] at hx23_0)
                          (try simp only [Nat.reduceMul, Nat.zero_mul, Nat.zero_add, Nat.reduceAdd] at hx23_0)
                          (try rw [show ((0 : Int)).toNat = 0 from rfl] at hf23_0)
                          (try simp only [Nat.reduceMul, Nat.zero_mul, Nat.zero_add, Nat.reduceAdd] at hf23_0)
                          replace p23 := eq_true p23
                          replace q23 := eq_true q23
                          have HP24 := Kd.R_putg HO_7.out (0 : Int) 0
                          go_wp2_with (first | ((with_reducible refine gate_store (t := 3) (p := 43) rfl ?_); refine store_event (t := 3) (p := 43) (v := ?vo_w25) (w1 := (wr.setCell ⟨go23, (0 : Int).toNat, none⟩ (.int .i64 0))) ?hg ?ho ?hn ?hr ?_; (case ho => rfl); (case hg => rfl); (case hn => rfl); (case hr => first | (go_simp; done) | (go_simp; rfl)); intro w25 hw; have hg : wr.grownBy w25 (some go23) := (by rw [hw]; exact HP24.2); have hp_ : Kd.R (Kd.int .i64) 3 w25 w.heap.size (fun _ => True) (.slice (some ⟨go23, 0, none⟩) x7_2.length co15) y157 := (by rw [hw, Ny157.out]; exact HP24.1); clear HP24; have n0_ := Aside0.mk (hp_); have n1_ := Aside0.mk ((by rw [hw]; exact below_set (HB.out) GB23.out : Below w.heap.size w w25)); clear HO_7; clear HB; have HO_7 := n0_; have HB := n1_; clear n0_ n1_; clear hg hw hp_))
                          go_loopg [9] k2 (fun kq v9 w' => ∃ (x7_3 : List Int) (x9_3 : Bool), v9 = .bool x9_3 ∧ Aside0 (impl_residues.l2 kq l0 x7_3 x9_3 = some (r1, r2)) ∧ Aside0 (kq ≤ k2) ∧ Aside0 (Kd.R (Kd.int .i64) 3 w' w.heap.size (fun _ => True) (.slice (some ⟨go23, 0, none⟩) x7_2.length co15) x7_3) ∧ Aside0 (Below w.heap.size w w'))
                          case atStart => exact ⟨(y157), (true), (by first | rfl | (simp; done) | (simp [*]; done)), H', ⟨Nat.le_refl _⟩, ⟨by (try simp only [hl7_2]); (with_reducible repeat (first | apply Kd.R_alloc | apply Kd.R_drewN | apply Kd.R_drew)); exact HO_7.out⟩, ⟨by repeat (first | (with_reducible first | exact HB.out | apply below_alloc | apply pw_below_drewN | apply below_drew1) | exact HB.out)⟩⟩
                          case round =>
                            clear H'
                            try clear c1
                            try clear p1
                            try clear q1
                            try clear hx1
                            try clear qi1
                            try clear hf1
                            try clear c2
                            try clear p2
                            try clear q2
                            try clear hx2
                            try clear qi2
                            try clear hf2
                            try clear c3
                            try clear c4
                            try clear c5
                            try clear c5b0
                            try clear c6
                            try clear c6b0
                            try clear p6
                            try clear c7
                            try clear c7b0
                            try clear c9
                            try clear c9b0
                            try clear c9b1
                            try clear c10
                            try clear c10b0
                            try clear c10b1
                            try clear c11
                            try clear c11b0
                            try clear c11b1
                            try clear c12
                            try clear c12b0
                            try clear c12b1
                            try clear c15
                            try clear p15
                            try clear q15
                            try clear hx15
                            try clear qi15
                            try clear c16
                            try clear c16b0
                            try clear c17
                            try clear c17b0
                            try clear c18
                            try clear c18b0
                            try clear p19
                            try clear q19
                            try clear hx19
                            try clear hf19
                            try clear c22
                            try clear c22b0
                            try clear c22b1
                            try clear p23
                            try clear q23
                            try clear hx23
                            try clear qi23
                            try clear hf23
                            try clear hx150_0
                            try clear hx152_0
                            try clear hx19_0
                            try clear hx23_0
                            try clear p1
                            try clear p15
                            try clear p150
                            try clear p152
                            try clear p19
                            try clear p2
                            try clear p23
                            try clear p6
                            try clear q1
                            try clear q15
                            try clear q150
                            try clear q152
                            try clear q19
                            try clear q23
                            obtain ⟨x7_3, x9_3, rfl, HA, HK3, HO_7, HB⟩ := hrel
                            have hl7_3 := (Kd.R_reads' HO_7.out).1
                            rw [hl7_3] at HO_7
                            (try simp only [hl7_3])
                            cases gk with
                            | zero => exact absurd HA.out (by simp [impl_residues.l2])
                            | succ k3 =>
                              have H := HA.out
                              clear HA
                              simp only [impl_residues.l2] at H
                              by_cases c26 : x9_3 = true
                              · subst c26
                                have H1 : (impl_residues.l3 k3 l0 x7_3 false (x7_3.length : Int) 0) = some (r1, r2) := by rw [if_pos rfl] at H; exact H
                                clear H
                                have H := H1
                                clear H1
                                have H' := Aside0.mk H
                                clear H
                                go_wp2
                                go_loopg [9, 47] k3 (fun kq v9 v47 w' => ∃ (x7_4 : List Int) (x9_4 : Bool) (x47_4 : Int), v9 = .bool x9_4 ∧ v47 = .int .i64 x47_4 ∧ Aside0 (impl_residues.l3 kq l0 x7_4 x9_4 (x7_3.length : Int) x47_4 = some (r1, r2)) ∧ Aside0 (kq ≤ k3) ∧ Aside0 (Kd.R (Kd.int .i64) 3 w' w.heap.size (fun _ => True) (.slice (some ⟨go23, 0, none⟩) x7_3.length co15) x7_4) ∧ Aside0 (Below w.heap.size w w'))
                                case atStart => exact ⟨(x7_3), (false), (0), (by first | rfl | (simp; done) | (simp [*]; done)), (by first | rfl | (simp; done) | (simp [*]; done)), H', ⟨Nat.le_refl _⟩, ⟨by (try simp only [hl7_2]); (try simp only [hl7_3]); (with_reducible repeat (first | apply Kd.R_alloc | apply Kd.R_drewN | apply Kd.R_drew)); exact HO_7.out⟩, ⟨by repeat (first | (with_reducible first | exact HB.out | apply below_alloc | apply pw_below_drewN | apply below_drew1) | exact HB.out)⟩⟩
                                case round =>
                                  clear H'
                                  try clear c1
                                  try clear p1
                                  try clear q1
                                  try clear hx1
                                  try clear qi1
                                  try clear hf1
                                  try clear c2
                                  try clear p2
                                  try clear q2
                                  try clear hx2
                                  try clear qi2
                                  try clear hf2
                                  try clear c3
                                  try clear c4
                                  try clear c5
                                  try clear c5b0
                                  try clear c6
                                  try clear c6b0
                                  try clear p6
                                  try clear c7
                                  try clear c7b0
                                  try clear c9
                                  try clear c9b0
                                  try clear c9b1
                                  try clear c10
                                  try clear c10b0
                                  try clear c10b1
                                  try clear c11
                                  try clear c11b0
                                  try clear c11b1
                                  try clear c12
                                  try clear c12b0
                                  try clear c12b1
                                  try clear c15
                                  try clear p15
                                  try clear q15
                                  try clear hx15
                                  try clear qi15
                                  try clear c16
                                  try clear c16b0
                                  try clear c17
                                  try clear c17b0
                                  try clear c18
                                  try clear c18b0
                                  try clear p19
                                  try clear q19
                                  try clear hx19
                                  try clear hf19
                                  try clear c22
                                  try clear c22b0
                                  try clear c22b1
                                  try clear p23
                                  try clear q23
                                  try clear hx23
                                  try clear qi23
                                  try clear hf23
                                  try clear c26
                                  try clear hx150_0
                                  try clear hx152_0
                                  try clear hx19_0
                                  try clear hx23_0
                                  try clear p1
                                  try clear p15
                                  try clear p150
                                  try clear p152
                                  try clear p19
                                  try clear p2
                                  try clear p23
                                  try clear p6
                                  try clear q1
                                  try clear q15
                                  try clear q150
                                  try clear q152
                                  try clear q19
                                  try clear q2
                                  try clear q23
                                  obtain ⟨x7_4, x9_4, x47_4, rfl, rfl, HA, HK4, HO_7, HB⟩ := hrel
                                  have hl7_4 := (Kd.R_reads' HO_7.out).1
                                  rw [hl7_4] at HO_7
                                  (try simp only [hl7_4])
                                  cases gk with
                                  | zero => exact absurd HA.out (by simp [impl_residues.l3])
                                  | succ k4 =>
                                    have H := HA.out
                                    clear HA
                                    simp only [impl_residues.l3] at H
                                    by_cases c27 : x47_4 < (x7_3.length : Int)
                                    · rw [if_pos c27] at H
                                      have c27b0 : decide (x47_4 < (x7_3.length : Int)) = true := decide_eq_true c27
                                      have c27b0x := c27b0
                                      (try simp only [hl7_2, hl7_3, hl7_4] at c27b0x)
                                      clear c27
                                      have H' := Aside0.mk H
                                      clear H
                                      go_wp2
                                      go_loopg [9, 52] k4 (fun kq v9 v52 w' => ∃ (x7_5 : List Int) (x9_5 : Bool) (x52_5 : Int), v9 = .bool x9_5 ∧ v52 = .int .i64 x52_5 ∧ Aside0 (impl_residues.l4 kq l0 x7_5 x9_5 x47_4 (x7_3.length : Int) x47_4 l0 (l0.length : Int) x52_5 = some (r1, r2)) ∧ Aside0 (kq ≤ k4) ∧ Aside0 (Kd.R (Kd.int .i64) 3 w' w.heap.size (fun _ => True) (.slice (some ⟨go23, 0, none⟩) x7_4.length co15) x7_5) ∧ Aside0 (Below w.heap.size w w'))
                                      case atStart => exact ⟨(x7_4), (x9_4), (0), (by first | rfl | (simp; done) | (simp [*]; done)), (by first | rfl | (simp; done) | (simp [*]; done)), H', ⟨Nat.le_refl _⟩, ⟨by (try simp only [hl7_2]); (try simp only [hl7_3]); (try simp only [hl7_4]); (with_reducible repeat (first | apply Kd.R_alloc | apply Kd.R_drewN | apply Kd.R_drew)); exact HO_7.out⟩, ⟨by repeat (first | (with_reducible first | exact HB.out | apply below_alloc | apply pw_below_drewN | apply below_drew1) | exact HB.out)⟩⟩
                                      case round =>
                                        clear H'
                                        try clear c1
                                        try clear p1
                                        try clear q1
                                        try clear hx1
                                        try clear qi1
                                        try clear hf1
                                        try clear c2
                                        try clear p2
                                        try clear q2
                                        try clear hx2
                                        try clear qi2
                                        try clear hf2
                                        try clear c3
                                        try clear c4
                                        try clear c5
                                        try clear c5b0
                                        try clear c6
                                        try clear c6b0
                                        try clear p6
                                        try clear c7
                                        try clear c7b0
                                        try clear c9
                                        try clear c9b0
                                        try clear c9b1
                                        try clear c10
                                        try clear c10b0
                                        try clear c10b1
                                        try clear c11
                                        try clear c11b0
                                        try clear c11b1
                                        try clear c12
                                        try clear c12b0
                                        try clear c12b1
                                        try clear c15
                                        try clear p15
                                        try clear q15
                                        try clear hx15
                                        try clear qi15
                                        try clear c16
                                        try clear c16b0
                                        try clear c17
                                        try clear c17b0
                                        try clear c18
                                        try clear c18b0
                                        try clear p19
                                        try clear q19
                                        try clear hx19
                                        try clear hf19
                                        try clear c22
                                        try clear c22b0
                                        try clear c22b1
                                        try clear p23
                                        try clear q23
                                        try clear hx23
                                        try clear qi23
                                        try clear hf23
                                        try clear c26
                                        try clear c27
                                        try clear c27b0
                                        try clear hx150_0
                                        try clear hx152_0
                                        try clear hx19_0
                                        try clear hx23_0
                                        try clear p1
                                        try clear p15
                                        try clear p150
                                        try clear p152
                                        try clear p19
                                        try clear p2
                                        try clear p23
                                        try clear p6
                                        try clear q1
                                        try clear q15
                                        try clear q150
                                        try clear q152
                                        try clear q19
                                        try clear q2
                                        try clear q23
                                        obtain ⟨x7_5, x9_5, x52_5, rfl, rfl, HA, HK5, HO_7, HB⟩ := hrel
                                        have hl7_5 := (Kd.R_reads' HO_7.out).1
                                        rw [hl7_5] at HO_7
                                        (try simp only [hl7_5])
                                        cases gk with
                                        | zero => exact absurd HA.out (by simp [impl_residues.l4])
                                        | succ k5 =>
                                          have H := HA.out
                                          clear HA
                                          simp only [impl_residues.l4] at H
                                          by_cases c28 : x52_5 < (l0.length : Int)
                                          · rw [if_pos c28] at H
                                            have c28b0 : decide (x52_5 < (l0.length : Int)) = true := decide_eq_true c28
                                            clear c28
                                            by_cases c29 : 0 ≤ x52_5
                                            · rw [if_pos c29] at H
                                              have c29b0 : decide (0 ≤ x52_5) = true := decide_eq_true c29
                                              clear c29
                                              by_cases c30 : x52_5 < (l0.length : Int)
                                              · rw [if_pos c30] at H
                                                have c30b0 : decide (x52_5 < (l0.length : Int)) = true := decide_eq_true c30
                                                clear c30
                                                by_cases c31 : 0 ≤ x47_4
                                                · rw [if_pos c31] at H
                                                  have c31b0 : decide (0 ≤ x47_4) = true := decide_eq_true c31
                                                  clear c31
                                                  by_cases c32 : x47_4 < (x7_5.length : Int)
                                                  · rw [if_pos c32] at H
                                                    have c32b0 : decide (x47_4 < (x7_5.length : Int)) = true := decide_eq_true c32
                                                    have c32b0x := c32b0
                                                    (try simp only [hl7_2, hl7_3, hl7_4, hl7_5] at c32b0x)
                                                    clear c32
                                                    by_cases c33 : 0 < (l0.length : Int)
                                                    · rw [if_pos c33] at H
                                                      have c33b0 : decide (0 < (l0.length : Int)) = true := decide_eq_true c33
                                                      have c33b1 : decide (0 < l0.length) = true := decide_eq_true (by omega)
                                                      clear c33
                                                      by_cases c34 : (rd l0 0) = 0
                                                      · rw [if_pos c34] at H
                                                        exact absurd H (by simp)
                                                      · rw [if_neg c34] at H
                                                        have c34b0 : ((rd l0 0) == 0) = false := beq_eq_false_iff_ne.mpr c34
                                                        have c34b1 : ((rd l0 0) != 0) = true := bne_iff_ne.mpr c34
                                                        obtain ⟨ji35, hji35⟩ : ∃ j_ : Int, (Int.tmod (wrap64 ((rd x7_5 x47_4) + (rd l0 x52_5))) (rd l0 0)) = j_ := ⟨_, rfl⟩
                                                        replace H : (if 0 ≤ (ji35) then (if (ji35) < (x7_5.length : Int) then (if (wrap64 ((rd x7_5 x47_4) + (rd l0 x52_5))) < (rd x7_5 (ji35)) then (impl_residues.l4 k5 l0 (x7_5.set ((ji35) : Int).toNat (wrap64 ((rd x7_5 x47_4) + (rd l0 x52_5)))) true x47_4 (x7_3.length : Int) x47_4 l0 (l0.length : Int) (wrap64 (x52_5 + 1))) else (impl_residues.l4 k5 l0 x7_5 x9_5 x47_4 (x7_3.length : Int) x47_4 l0 (l0.length : Int) (wrap64 (x52_5 + 1)))) else (none)) else (none)) = some (r1, r2) := by first | (rw [hji35] at H; exact H) | (simp only [hji35] at H ⊢; exact H)
                                                        by_cases c36 : 0 ≤ (ji35)
                                                        · rw [if_pos c36] at H
                                                          have c36b0 : decide (0 ≤ (ji35)) = true := decide_eq_true c36
                                                          clear c36
                                                          by_cases c37 : (ji35) < (x7_5.length : Int)
                                                          · rw [if_pos c37] at H
                                                            have c37b0 : decide ((ji35) < (x7_5.length : Int)) = true := decide_eq_true c37
                                                            have c37b0x := c37b0
                                                            (try simp only [hl7_2, hl7_3, hl7_4, hl7_5] at c37b0x)
                                                            clear c37
                                                            by_cases c38 : (wrap64 ((rd x7_5 x47_4) + (rd l0 x52_5))) < (rd x7_5 (ji35))
                                                            · rw [if_pos c38] at H
                                                              have c38b0 : decide ((wrap64 ((rd x7_5 x47_4) + (rd l0 x52_5))) < (rd x7_5 (ji35))) = true := decide_eq_true c38
                                                              clear c38
                                                              obtain ⟨y163, hy163⟩ : ∃ y_ : List Int, y_ = (x7_5.set ((ji35) : Int).toNat (wrap64 ((rd x7_5 x47_4) + (rd l0 x52_5)))) := ⟨_, rfl⟩
                                                              replace H : (impl_residues.l4 k5 l0 y163 true x47_4 (x7_3.length : Int) x47_4 l0 (l0.length : Int) (wrap64 (x52_5 + 1))) = some (r1, r2) := by first | (rw [hy163]; with_reducible exact H) | (have H2_ := (Option.bind_some _ _).symm.trans H; rw [hy163]; with_reducible exact H2_) | (have H2_ := (Option.bind_some _ _).symm.trans H; with_reducible exact H2_) | with_reducible exact H | (rw [hy163]; exact H) | exact H
                                                              have Ny163 := Aside0.mk hy163
                                                              clear hy163
                                                              have H' := Aside0.mk H
                                                              clear H
                                                              have p158 : 0 ≤ (x52_5 : Int) := of_decide_eq_true (by first | (with_reducible assumption) | assumption)
                                                              have q158 : x52_5 < (l0.length : Int) := of_decide_eq_true (by first | (with_reducible assumption) | assumption)
                                                              obtain ⟨ad158, e158, hx158_0⟩ := Kd.at_int HR0.out x52_5 p158 q158
                                                              obtain rfl : ad152 = ad158 := (by injection e158)
                                                              (try replace hx158_0 := (HB.out.cell (World.block_lt_of_cell? w _ hx158_0)).trans hx158_0)
                                                              replace p158 := eq_true p158
                                                              replace q158 := eq_true q158
                                                              have p159 : 0 ≤ (x47_4 : Int) := of_decide_eq_true (by first | (with_reducible assumption) | assumption)
                                                              have q159 : x47_4 < (x7_5.length : Int) := of_decide_eq_true (by first | (with_reducible assumption) | assumption)
                                                              obtain ⟨ad159, e159, hx159_0⟩ := Kd.at_int (Kd.R_reads' HO_7.out).2.2 x47_4 p159 q159
                                                              obtain rfl : (⟨go23, 0, none⟩ : Addr) = ad159 := (by injection e159)
                                                              (first | simp only [add_plain] at hx159_0 | simp only [add_at] at hx159_0 | simp only [Addr.add, Nat.zero_add] at hx159_0 | skip)
                                                              replace p159 := eq_true p159
                                                              replace q159 := eq_true q159
                                                              have p160 : 0 ≤ (0 : Int) := (by omega)
                                                              have q160 : 0 < (l0.length : Int) := of_decide_eq_true (by first | (with_reducible assumption) | assumption)
                                                              obtain ⟨ad160, e160, hx160_0⟩ := Kd.at_int HR0.out 0 p160 q160
                                                              obtain rfl : ad152 = ad160 := (by injection e160)
                                                              have qi160 : (0 < l0.length) = True := eq_true (by omega)
                                                              (try rw [show ((0 : Int)).toNat = 0 from rfl] at hx160_0)
                                                              (try rw [Addr.add_zero'] at hx160_0)
                                                              (try replace hx160_0 := (HB.out.cell (World.block_lt_of_cell? w _ hx160_0)).trans hx160_0)
                                                              replace p160 := eq_true p160
                                                              replace q160 := eq_true q160
                                                              have p161 : 0 ≤ ((ji35) : Int) := of_decide_eq_true (by first | (with_reducible assumption) | assumption)
                                                              have q161 : (ji35) < (x7_5.length : Int) := of_decide_eq_true (by first | (with_reducible assumption) | assumption)
                                                              obtain ⟨ad161, e161, hx161_0⟩ := Kd.at_int (Kd.R_reads' HO_7.out).2.2 (ji35) p161 q161
                                                              obtain rfl : (⟨go23, 0, none⟩ : Addr) = ad161 := (by injection e161)
                                                              (first | simp only [add_plain] at hx161_0 | simp only [add_at] at hx161_0 | simp only [Addr.add, Nat.zero_add] at hx161_0 | skip)
                                                              replace p161 := eq_true p161
                                                              replace q161 := eq_true q161
                                                              have p162 : 0 ≤ (0 : Int) := (by omega)
                                                              have q162 : 0 < (l0.length : Int) := of_decide_eq_true (by first | (with_reducible assumption) | assumption)
                                                              obtain ⟨ad162, e162, hx162_0⟩ := Kd.at_int HR0.out 0 p162 q162
                                                              obtain rfl : ad152 = ad162 := (by injection e162)
                                                              have qi162 : (0 < l0.length) = True := eq_true (by omega)
                                                              (try rw [show ((0 : Int)).toNat = 0 from rfl] at hx162_0)
                                                              (try rw [Addr.add_zero'] at hx162_0)
                                                              (try replace hx162_0 := (HB.out.cell (World.block_lt_of_cell? w _ hx162_0)).trans hx162_0)
                                                              replace p162 := eq_true p162
                                                              replace q162 := eq_true q162
                                                              have p39 : 0 ≤ ((ji35) : Int) := of_decide_eq_true (by first | (with_reducible assumption) | assumption)
                                                              have q39 : ((ji35) : Int) < ((x7_5.length : Int) : Int) := of_decide_eq_true (by first | (with_reducible assumption) | assumption)
                                                              obtain ⟨hx39_0, hf39_0⟩ := Kd.R_celln 0 HO_7.out ((ji35) : Int) p39 q39
                                                              replace p39 := eq_true p39
                                                              replace q39 := eq_true q39
                                                              have HP40 := Kd.R_putg HO_7.out ((ji35) : Int) (wrap64 ((rd x7_5 x47_4) + (rd l0 x52_5)))
                                                              go_wp2_with (first | ((with_reducible refine gate_store (t := 3) (p := 79) rfl ?_); refine store_event (t := 3) (p := 79) (v := ?vo_w41) (w1 := (wr.setCell ⟨go23, ((ji35) : Int).toNat, none⟩ (.int .i64 (wrap64 ((rd x7_5 x47_4) + (rd l0 x52_5)))))) ?hg ?ho ?hn ?hr ?_; (case ho => rfl); (case hg => rfl); (case hn => rfl); (case hr => first | (go_simp; done) | (go_simp; rfl)); intro w41 hw; have hg : wr.grownBy w41 (some go23) := (by rw [hw]; exact HP40.2); have hp_ : Kd.R (Kd.int .i64) 3 w41 w.heap.size (fun _ => True) (.slice (some ⟨go23, 0, none⟩) x7_5.length co15) y163 := (by rw [hw, Ny163.out]; exact HP40.1); clear HP40; have n0_ := Aside0.mk (hp_); have n1_ := Aside0.mk ((by rw [hw]; exact below_set (HB.out) GB23.out : Below w.heap.size w w41)); clear HO_7; clear HB; have HO_7 := n0_; have HB := n1_; clear n0_ n1_; clear hg hw hp_))
                                                              (try simp only [← hl7_5])
                                                              go_roundg k5
                                                              case measure => have := HK1.out; have := HK2.out; have := HK3.out; have := HK4.out; have := HK5.out; omega
                                                              case rel => exact ⟨(y163), (true), (wrap64 (x52_5 + 1)), (by first | rfl | (simp; done) | (simp [*]; done)), (by first | rfl | (simp; done) | (simp [*]; done)), H', ⟨by have := HK1.out; have := HK2.out; have := HK3.out; have := HK4.out; have := HK5.out; omega⟩, ⟨by (try simp only [hl7_2]); (try simp only [hl7_3]); (try simp only [hl7_4]); (try simp only [hl7_5]); (with_reducible repeat (first | apply Kd.R_alloc | apply Kd.R_drewN | apply Kd.R_drew)); exact HO_7.out⟩, ⟨by repeat (first | (with_reducible first | exact HB.out | apply below_alloc | apply pw_below_drewN | apply below_drew1) | exact HB.out)⟩⟩
                                                            · rw [if_neg c38] at H
                                                              have c38b0 : decide ((wrap64 ((rd x7_5 x47_4) + (rd l0 x52_5))) < (rd x7_5 (ji35))) = false := decide_eq_false c38
                                                              clear c38
                                                              have H' := Aside0.mk H
                                                              clear H
                                                              have p158 : 0 ≤ (x52_5 : Int) := of_decide_eq_true (by first | (with_reducible assumption) | assumption)
                                                              have q158 : x52_5 < (l0.length : Int) := of_decide_eq_true (by first | (with_reducible assumption) | assumption)
                                                              obtain ⟨ad158, e158, hx158_0⟩ := Kd.at_int HR0.out x52_5 p158 q158
                                                              obtain rfl : ad152 = ad158 := (by injection e158)
                                                              (try replace hx158_0 := (HB.out.cell (World.block_lt_of_cell? w _ hx158_0)).trans hx158_0)
                                                              replace p158 := eq_true p158
                                                              replace q158 := eq_true q158
                                                              have p159 : 0 ≤ (x47_4 : Int) := of_decide_eq_true (by first | (with_reducible assumption) | assumption)
                                                              have q159 : x47_4 < (x7_5.length : Int) := of_decide_eq_true (by first | (with_reducible assumption) | assumption)
                                                              obtain ⟨ad159, e159, hx159_0⟩ := Kd.at_int (Kd.R_reads' HO_7.out).2.2 x47_4 p159 q159
                                                              obtain rfl : (⟨go23, 0, none⟩ : Addr) = ad159 := (by injection e159)
                                                              (first | simp only [add_plain] at hx159_0 | simp only [add_at] at hx159_0 | simp only [Addr.add, Nat.zero_add] at hx159_0 | skip)
                                                              replace p159 := eq_true p159
                                                              replace q159 := eq_true q159
                                                              have p160 : 0 ≤ (0 : Int) := (by omega)
                                                              have q160 : 0 < (l0.length : Int) := of_decide_eq_true (by first | (with_reducible assumption) | assumption)
                                                              obtain ⟨ad160, e160, hx160_0⟩ := Kd.at_int HR0.out 0 p160 q160
                                                              obtain rfl : ad152 = ad160 := (by injection e160)
                                                              have qi160 : (0 < l0.length) = True := eq_true (by omega)
                                                              (try rw [show ((0 : Int)).toNat = 0 from rfl] at hx160_0)
                                                              (try rw [Addr.add_zero'] at hx160_0)
                                                              (try replace hx160_0 := (HB.out.cell (World.block_lt_of_cell? w _ hx160_0)).trans hx160_0)
                                                              replace p160 := eq_true p160
                                                              replace q160 := eq_true q160
                                                              have p161 : 0 ≤ ((ji35) : Int) := of_decide_eq_true (by first | (with_reducible assumption) | assumption)
                                                              have q161 : (ji35) < (x7_5.length : Int) := of_decide_eq_true (by first | (with_reducible assumption) | assumption)
                                                              obtain ⟨ad161, e161, hx161_0⟩ := Kd.at_int (Kd.R_reads' HO_7.out).2.2 (ji35) p161 q161
                                                              obtain rfl : (⟨go23, 0, none⟩ : Addr) = ad161 := (by injection e161)
                                                              (first | simp only [add_plain] at hx161_0 | simp only [add_at] at hx161_0 | simp only [Addr.add, Nat.zero_add] at hx161_0 | skip)
                                                              replace p161 := eq_true p161
                                                              replace q161 := eq_true q161
                                                              go_wp2
                                                              (try simp only [← hl7_5])
                                                              go_roundg k5
                                                              case measure => have := HK1.out; have := HK2.out; have := HK3.out; have := HK4.out; have := HK5.out; omega
                                                              case rel => exact ⟨(x7_5), (x9_5), (wrap64 (x52_5 + 1)), (by first | rfl | (simp; done) | (simp [*]; done)), (by first | rfl | (simp; done) | (simp [*]; done)), H', ⟨by have := HK1.out; have := HK2.out; have := HK3.out; have := HK4.out; have := HK5.out; omega⟩, ⟨by (try simp only [hl7_2]); (try simp only [hl7_3]); (try simp only [hl7_4]); (try simp only [hl7_5]); (with_reducible repeat (first | apply Kd.R_alloc | apply Kd.R_drewN | apply Kd.R_drew)); exact HO_7.out⟩, ⟨by repeat (first | (with_reducible first | exact HB.out | apply below_alloc | apply pw_below_drewN | apply below_drew1) | exact HB.out)⟩⟩
                                                          · rw [if_neg c37] at H
                                                            exact absurd H (by simp)
                                                        · rw [if_neg c36] at H
                                                          exact absurd H (by simp)
                                                    · rw [if_neg c33] at H
                                                      exact absurd H (by simp)
                                                  · rw [if_neg c32] at H
                                                    exact absurd H (by simp)
                                                · rw [if_neg c31] at H
                                                  exact absurd H (by simp)
                                              · rw [if_neg c30] at H
                                                exact absurd H (by simp)
                                            · rw [if_neg c29] at H
                                              exact absurd H (by simp)
                                          · rw [if_neg c28] at H
                                            have c28b0 : decide (x52_5 < (l0.length : Int)) = false := decide_eq_false c28
                                            clear c28
                                            have H' := Aside0.mk H
                                            clear H
                                            go_wp2
                                            (try simp only [← hl7_4, ← hl7_5])
                                            go_roundg k5
                                            case measure => have := HK1.out; have := HK2.out; have := HK3.out; have := HK4.out; have := HK5.out; omega
                                            case rel => exact ⟨(x7_5), (x9_5), (wrap64 (x47_4 + 1)), (by first | rfl | (simp; done) | (simp [*]; done)), (by first | rfl | (simp; done) | (simp [*]; done)), H', ⟨by have := HK1.out; have := HK2.out; have := HK3.out; have := HK4.out; have := HK5.out; omega⟩, ⟨by (try simp only [hl7_2]); (try simp only [hl7_3]); (try simp only [hl7_4]); (try simp only [hl7_5]); (with_reducible repeat (first | apply Kd.R_alloc | apply Kd.R_drewN | apply Kd.R_drew)); exact HO_7.out⟩, ⟨by repeat (first | (with_reducible first | exact HB.out | apply below_alloc | apply pw_below_drewN | apply below_drew1) | exact HB.out)⟩⟩
                                    · rw [if_neg c27] at H
                                      have c27b0 : decide (x47_4 < (x7_3.length : Int)) = false := decide_eq_false c27
                                      have c27b0x := c27b0
                                      (try simp only [hl7_2, hl7_3, hl7_4] at c27b0x)
                                      clear c27
                                      have H' := Aside0.mk H
                                      clear H
                                      go_wp2
                                      (try simp only [← hl7_3, ← hl7_4])
                                      go_roundg k4
                                      case measure => have := HK1.out; have := HK2.out; have := HK3.out; have := HK4.out; omega
                                      case rel => exact ⟨(x7_4), (x9_4), (by first | rfl | (simp; done) | (simp [*]; done)), H', ⟨by have := HK1.out; have := HK2.out; have := HK3.out; have := HK4.out; omega⟩, ⟨by (try simp only [hl7_2]); (try simp only [hl7_3]); (try simp only [hl7_4]); (with_reducible repeat (first | apply Kd.R_alloc | apply Kd.R_drewN | apply Kd.R_drew)); exact HO_7.out⟩, ⟨by repeat (first | (with_reducible first | exact HB.out | apply below_alloc | apply pw_below_drewN | apply below_drew1) | exact HB.out)⟩⟩
                              · replace c26 := Bool.eq_false_iff.mpr c26
                                subst c26
                                have H1 : (some (x7_3, true)) = some (r1, r2) := by rw [if_neg (show ¬ (false = true) by decide)] at H; exact H
                                clear H
                                have H := H1
                                clear H1
                                simp only [Option.some.injEq, Prod.mk.injEq] at H
                                obtain ⟨rfl, rfl⟩ := H
                                go_wp2
                                go_ret2
                                exact ⟨_, by first | rfl | (simp [errW_none, errW_some] <;> rfl) | (simp [*, errW_none, errW_some] <;> rfl), by (with_reducible repeat (first | apply Kd.R_alloc | apply Kd.R_drewN | apply Kd.R_drew)); exact HO_7.out, by repeat (first | (with_reducible first | exact HB.out | apply below_alloc | apply pw_below_drewN | apply below_drew1) | exact HB.out)⟩
                        · rw [if_neg c22] at H
                          exact absurd H (by simp)
                · rw [if_neg c12] at H
                  exact absurd H (by simp)
              · rw [if_neg c11] at H
                exact absurd H (by simp)
            · rw [if_neg c10] at H
              exact absurd H (by simp)
          · rw [if_neg c9] at H
            have c9b0 : (x4_1 == 1) = false := beq_eq_false_iff_ne.mpr c9
            have c9b1 : (x4_1 != 1) = true := bne_iff_ne.mpr c9
            simp only [Option.some.injEq, Prod.mk.injEq] at H
            obtain ⟨rfl, rfl⟩ := H
            go_wp2
            go_ret2
            exact ⟨_, by first | rfl | (simp [errW_none, errW_some] <;> rfl) | (simp [*, errW_none, errW_some] <;> rfl), by first | exact Kd.R_nil _ _ _ _ _ | exact Kd.N_nil _ _ _ _ _ | exact Kd.V_nil _ _ _ _ _ | exact Kd.Q_nil _ _ _ _ _ | exact Kd.S_nil _ _ _ _ _, by repeat (first | (with_reducible first | exact HB.out | apply below_alloc | apply pw_below_drewN | apply below_drew1) | exact HB.out)⟩
  · replace c3 := Bool.eq_false_iff.mpr c3
    subst c3
    have H1 : (some (([] : List Int), false)) = some (r1, r2) := by rw [if_neg (show ¬ (false = true) by decide)] at H; exact H
    clear H
    have H := H1
    clear H1
    simp only [Option.some.injEq, Prod.mk.injEq] at H
    obtain ⟨rfl, rfl⟩ := H
    go_enter Try.func52, Try.ntmps52
    go_wp2_with (first | ((with_reducible refine gate_callee (f := 15) rfl ?_); refine goesL_ (some 15) rfl rfl Try.func15 (by kernel_rfl) rfl #[.slice A0 l0.length c0] rfl (by (try simp only [List.map_toArray, List.map_cons, List.map_nil]); first | done | rfl | (simp only [List.length_drop, List.length_take]; rfl)) ?_; (with_reducible refine (impl_AreCoins.calls k _ _ l0 false _ ?side1 ?side2 A2.out).mono ?_); (case side1 => repeat (first | exact HR0.out | (with_reducible refine Kd.C_alloc ?_ _) | (with_reducible refine Kd.C_drewN ?_ _) | (with_reducible refine Kd.C_drew ?_))); (case side2 => exact HC0.out); rintro e w42 ⟨rfl, hb⟩; refine ⟨_, rfl, ?_⟩; have n0_ := Aside0.mk (below_step (by repeat (first | (with_reducible first | exact HB.out | apply below_alloc | apply pw_below_drewN | apply below_drew1) | exact HB.out)) hb); clear HB; have HB := n0_; clear n0_; (try clear hb); (try clear hb2); (try clear hk); (try clear hi)))
    go_ret2
    exact ⟨_, by first | rfl | (simp [errW_none, errW_some] <;> rfl) | (simp [*, errW_none, errW_some] <;> rfl), by first | exact Kd.R_nil _ _ _ _ _ | exact Kd.N_nil _ _ _ _ _ | exact Kd.V_nil _ _ _ _ _ | exact Kd.Q_nil _ _ _ _ _ | exact Kd.S_nil _ _ _ _ _, by repeat (first | (with_reducible first | exact HB.out | apply below_alloc | apply pw_below_drewN | apply below_drew1) | exact HB.out)⟩

end Go.Proofs.Ytohghfeomocnlaa.E
