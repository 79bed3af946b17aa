/- Functions of the program and of the reference as Lean functions, and the contracts of their calls: laid by a program of this repo (wip/gen.py), in part by hand. -/
import Derived.Test.YtohghfeomocnlaaCx0
import Derived.Test.YtohghfeomocnlaaCx5
namespace Go.Proofs.Ytohghfeomocnlaa.C
open Go.RowKit Go.Proofs.YtohghfeomocnlaaW.PrintWords Go.Proofs.YtohghfeomocnlaaW.PrintLast Go.Proofs.YtohghfeomocnlaaW.PrintMore
attribute [local go_sem] max2_int min2_int max_two min_two max_three min_three max_four min_four   -- for this text's walks alone
set_option linter.unusedVariables false
set_option linter.unusedSimpArgs false

/-! ### impl_ChangeFrom: function 36 -/
mutual
def impl_ChangeFrom.l0 : Nat → List Int → List Int → Int → List (List Int) → List Int → Int → Int → Option (List Int × Bool)
  | 0, _, _, _, _, _, _, _ => none
  | k + 1, x0, x1, x2, x8, x9, x30, x31 => if x31 < x30 then (if 0 ≤ x31 then (if x31 < (x9.length : Int) then (impl_ChangeFrom.l0 k x0 x1 x2 x8 (x9.set (x31 : Int).toNat 1001) x30 (wrap64 (x31 + 1))) else (none)) else (none)) else (if 0 < (x9.length : Int) then (if 0 ≤ (x0.length : Int) then (if (x0.length : Int) < (x8.length : Int) then (impl_ChangeFrom.l1 k x0 x1 x2 (x8.set ((x0.length : Int) : Int).toNat (x9.set (0 : Int).toNat 0)) (wrap64 ((x0.length : Int) - 1))) else (none)) else (none)) else (none))
def impl_ChangeFrom.l1 : Nat → List Int → List Int → Int → List (List Int) → Int → Option (List Int × Bool)
  | 0, _, _, _, _, _ => none
  | k + 1, x0, x1, x2, x8, x11 => if x11 ≥ 0 then (if 0 ≤ (wrap64 (x2 + 1)) then (if (wrap64 (x2 + 1) : Int).toNat ≤ 35184372088832 then (if 0 ≤ x11 then (if x11 < (x8.length : Int) then ((some (x8.set (x11 : Int).toNat (List.replicate (wrap64 (x2 + 1) : Int).toNat 0) : List (List Int))).bind fun y166 => (impl_ChangeFrom.l2 k x0 x1 x2 y166 x11 ((rd_L2 y166 x11).length : Int) 0)) else (none)) else (none)) else (none)) else (none)) else (if 0 < (x8.length : Int) then (if 0 ≤ x2 then (if x2 < ((rd_L2 x8 0).length : Int) then (if (rd (rd_L2 x8 0) x2) = 1001 then (some (([] : List Int), false)) else (impl_ChangeFrom.l3 k x2 x8 (([] : List Int)) x0 (x0.length : Int) 0)) else (none)) else (none)) else (none))
def impl_ChangeFrom.l2 : Nat → List Int → List Int → Int → List (List Int) → Int → Int → Int → Option (List Int × Bool)
  | 0, _, _, _, _, _, _, _ => none
  | k + 1, x0, x1, x2, x8, x11, x62, x63 => if x63 < x62 then (if 0 ≤ (wrap64 (x11 + 1)) then (if (wrap64 (x11 + 1)) < (x8.length : Int) then (if 0 ≤ x63 then (if x63 < ((rd_L2 x8 (wrap64 (x11 + 1))).length : Int) then (if (rd (rd_L2 x8 (wrap64 (x11 + 1))) x63) < 1001 then (if 0 ≤ x11 then (if x11 < (x8.length : Int) then (if x63 < ((rd_L2 x8 x11).length : Int) then (impl_ChangeFrom.l2 k x0 x1 x2 (x8.set (x11 : Int).toNat ((rd_L2 x8 x11).set (x63 : Int).toNat 0)) x11 x62 (wrap64 (x63 + 1))) else (none)) else (none)) else (none)) else (if 0 ≤ x11 then (if x11 < (x0.length : Int) then (if x63 ≥ (rd x0 x11) then (if x11 < (x8.length : Int) then (if 0 ≤ (wrap64 (x63 - (rd x0 x11))) then (if (wrap64 (x63 - (rd x0 x11))) < ((rd_L2 x8 x11).length : Int) then (if x11 < (x1.length : Int) then (if (rd (rd_L2 x8 x11) (wrap64 (x63 - (rd x0 x11)))) < (rd x1 x11) then (if x63 < ((rd_L2 x8 x11).length : Int) then (impl_ChangeFrom.l2 k x0 x1 x2 (x8.set (x11 : Int).toNat ((rd_L2 x8 x11).set (x63 : Int).toNat (wrap64 ((rd (rd_L2 x8 x11) (wrap64 (x63 - (rd x0 x11)))) + 1)))) x11 x62 (wrap64 (x63 + 1))) else (none)) else (if x63 < ((rd_L2 x8 x11).length : Int) then (impl_ChangeFrom.l2 k x0 x1 x2 (x8.set (x11 : Int).toNat ((rd_L2 x8 x11).set (x63 : Int).toNat 1001)) x11 x62 (wrap64 (x63 + 1))) else (none))) else (none)) else (none)) else (none)) else (none)) else (if x11 < (x8.length : Int) then (if x63 < ((rd_L2 x8 x11).length : Int) then (impl_ChangeFrom.l2 k x0 x1 x2 (x8.set (x11 : Int).toNat ((rd_L2 x8 x11).set (x63 : Int).toNat 1001)) x11 x62 (wrap64 (x63 + 1))) else (none)) else (none))) else (none)) else (none))) else (none)) else (none)) else (none)) else (none)) else (impl_ChangeFrom.l1 k x0 x1 x2 x8 (wrap64 (x11 - 1)))
def impl_ChangeFrom.l3 : Nat → Int → List (List Int) → List Int → List Int → Int → Int → Option (List Int × Bool)
  | 0, _, _, _, _, _, _ => none
  | k + 1, x2, x8, x13, x142, x143, x144 => if x144 < x143 then (if 0 ≤ x144 then (if x144 < (x142.length : Int) then (if x144 < (x8.length : Int) then (if 0 ≤ x2 then (if x2 < ((rd_L2 x8 x144).length : Int) then (if x13.length < 17592186044416 then (impl_ChangeFrom.l3 k (wrap64 (x2 - (wrap64 ((rd (rd_L2 x8 x144) x2) * (rd x142 x144))))) x8 (x13 ++ [rd (rd_L2 x8 x144) x2]) x142 x143 (wrap64 (x144 + 1))) else (none)) else (none)) else (none)) else (none)) else (none)) else (none)) else (some (x13, true))
end
def impl_ChangeFrom.f (k : Nat) (l0 : List Int) (l1 : List Int) (a2 : Int) : Option (List Int × Bool) := (impl_isPurse.f k l0 l1 a2).bind fun t153 => (if t153 = true then (if 0 ≤ (wrap64 ((l0.length : Int) + 1)) then (if (wrap64 ((l0.length : Int) + 1) : Int).toNat ≤ 11728124029610 then (if 0 ≤ (wrap64 (a2 + 1)) then (if (wrap64 (a2 + 1) : Int).toNat ≤ 35184372088832 then ((some (List.replicate (wrap64 (a2 + 1) : Int).toNat 0 : List Int)).bind fun y157 => (impl_ChangeFrom.l0 k l0 l1 a2 (List.replicate (wrap64 ((l0.length : Int) + 1) : Int).toNat []) y157 (y157.length : Int) 0)) else (none)) else (none)) else (none)) else (none)) else (some (([] : List Int), false)))
theorem impl_ChangeFrom.mono_l : ∀ k, (∀ y0 y1 y2 y3 y4 y5 y6, LeO (impl_ChangeFrom.l0 k y0 y1 y2 y3 y4 y5 y6) (impl_ChangeFrom.l0 (k + 1) y0 y1 y2 y3 y4 y5 y6)) ∧ (∀ y0 y1 y2 y3 y4, LeO (impl_ChangeFrom.l1 k y0 y1 y2 y3 y4) (impl_ChangeFrom.l1 (k + 1) y0 y1 y2 y3 y4)) ∧ (∀ y0 y1 y2 y3 y4 y5 y6, LeO (impl_ChangeFrom.l2 k y0 y1 y2 y3 y4 y5 y6) (impl_ChangeFrom.l2 (k + 1) y0 y1 y2 y3 y4 y5 y6)) ∧ (∀ y0 y1 y2 y3 y4 y5, LeO (impl_ChangeFrom.l3 k y0 y1 y2 y3 y4 y5) (impl_ChangeFrom.l3 (k + 1) y0 y1 y2 y3 y4 y5))
  | 0 => ⟨fun _ _ _ _ _ _ _ r h => by simp [impl_ChangeFrom.l0] at h, fun _ _ _ _ _ r h => by simp [impl_ChangeFrom.l1] at h, fun _ _ _ _ _ _ _ r h => by simp [impl_ChangeFrom.l2] at h, fun _ _ _ _ _ _ r h => by simp [impl_ChangeFrom.l3] at h⟩
  | k + 1 => by
    obtain ⟨ih0, ih1, ih2, ih3⟩ := impl_ChangeFrom.mono_l k
    refine ⟨?_, ?_, ?_, ?_⟩
    · intro y0 y1 y2 y3 y4 y5 y6
      unfold impl_ChangeFrom.l0
      repeat' first
      | (with_reducible exact ih0 _ _ _ _ _ _ _)
      | (with_reducible exact ih1 _ _ _ _ _)
      | (with_reducible exact ih2 _ _ _ _ _ _ _)
      | (with_reducible exact ih3 _ _ _ _ _ _)
      | (with_reducible exact impl_isPurse.mono _ _ _ _)
      | (with_reducible exact LeO.refl _)
      | (with_reducible exact LeO.none _)
      | (with_reducible refine LeO.ite ?_ ?_)
      | (with_reducible refine LeO.bind ?_ (fun _ => ?_))
      | exact ih0 _ _ _ _ _ _ _
      | exact ih1 _ _ _ _ _
      | exact ih2 _ _ _ _ _ _ _
      | exact ih3 _ _ _ _ _ _
      | exact impl_isPurse.mono _ _ _ _
      | exact LeO.none _
      | refine LeO.ite ?_ ?_
      | refine LeO.bind ?_ (fun _ => ?_)
    · intro y0 y1 y2 y3 y4
      unfold impl_ChangeFrom.l1
      repeat' first
      | (with_reducible exact ih0 _ _ _ _ _ _ _)
      | (with_reducible exact ih1 _ _ _ _ _)
      | (with_reducible exact ih2 _ _ _ _ _ _ _)
      | (with_reducible exact ih3 _ _ _ _ _ _)
      | (with_reducible exact impl_isPurse.mono _ _ _ _)
      | (with_reducible exact LeO.refl _)
      | (with_reducible exact LeO.none _)
      | (with_reducible refine LeO.ite ?_ ?_)
      | (with_reducible refine LeO.bind ?_ (fun _ => ?_))
      | exact ih0 _ _ _ _ _ _ _
      | exact ih1 _ _ _ _ _
      | exact ih2 _ _ _ _ _ _ _
      | exact ih3 _ _ _ _ _ _
      | exact impl_isPurse.mono _ _ _ _
      | exact LeO.none _
      | refine LeO.ite ?_ ?_
      | refine LeO.bind ?_ (fun _ => ?_)
    · intro y0 y1 y2 y3 y4 y5 y6
      unfold impl_ChangeFrom.l2
      repeat' first
      | (with_reducible exact ih0 _ _ _ _ _ _ _)
      | (with_reducible exact ih1 _ _ _ _ _)
      | (with_reducible exact ih2 _ _ _ _ _ _ _)
      | (with_reducible exact ih3 _ _ _ _ _ _)
      | (with_reducible exact impl_isPurse.mono _ _ _ _)
      | (with_reducible exact LeO.refl _)
      | (with_reducible exact LeO.none _)
      | (with_reducible refine LeO.ite ?_ ?_)
      | (with_reducible refine LeO.bind ?_ (fun _ => ?_))
      | exact ih0 _ _ _ _ _ _ _
      | exact ih1 _ _ _ _ _
      | exact ih2 _ _ _ _ _ _ _
      | exact ih3 _ _ _ _ _ _
      | exact impl_isPurse.mono _ _ _ _
      | exact LeO.none _
      | refine LeO.ite ?_ ?_
      | refine LeO.bind ?_ (fun _ => ?_)
    · intro y0 y1 y2 y3 y4 y5
      unfold impl_ChangeFrom.l3
      repeat' first
      | (with_reducible exact ih0 _ _ _ _ _ _ _)
      | (with_reducible exact ih1 _ _ _ _ _)
      | (with_reducible exact ih2 _ _ _ _ _ _ _)
      | (with_reducible exact ih3 _ _ _ _ _ _)
      | (with_reducible exact impl_isPurse.mono _ _ _ _)
      | (with_reducible exact LeO.refl _)
      | (with_reducible exact LeO.none _)
      | (with_reducible refine LeO.ite ?_ ?_)
      | (with_reducible refine LeO.bind ?_ (fun _ => ?_))
      | exact ih0 _ _ _ _ _ _ _
      | exact ih1 _ _ _ _ _
      | exact ih2 _ _ _ _ _ _ _
      | exact ih3 _ _ _ _ _ _
      | exact impl_isPurse.mono _ _ _ _
      | exact LeO.none _
      | refine LeO.ite ?_ ?_
      | refine LeO.bind ?_ (fun _ => ?_)
theorem impl_ChangeFrom.mono : ∀ a0 a1 a2 k, LeO (impl_ChangeFrom.f k a0 a1 a2) (impl_ChangeFrom.f (k + 1) a0 a1 a2) := by
  intro a0 a1 a2 k
  obtain ⟨ih0, ih1, ih2, ih3⟩ := impl_ChangeFrom.mono_l k
  unfold impl_ChangeFrom.f
  repeat' first
      | (with_reducible exact ih0 _ _ _ _ _ _ _)
      | (with_reducible exact ih1 _ _ _ _ _)
      | (with_reducible exact ih2 _ _ _ _ _ _ _)
      | (with_reducible exact ih3 _ _ _ _ _ _)
      | (with_reducible exact impl_isPurse.mono _ _ _ _)
      | (with_reducible exact LeO.refl _)
      | (with_reducible exact LeO.none _)
      | (with_reducible refine LeO.ite ?_ ?_)
      | (with_reducible refine LeO.bind ?_ (fun _ => ?_))
      | exact ih0 _ _ _ _ _ _ _
      | exact ih1 _ _ _ _ _
      | exact ih2 _ _ _ _ _ _ _
      | exact ih3 _ _ _ _ _ _
      | exact impl_isPurse.mono _ _ _ _
      | exact LeO.none _
      | refine LeO.ite ?_ ?_
      | refine LeO.bind ?_ (fun _ => ?_)
def impl_ChangeFrom.T22 : Bool × List (List Nat × List Nat) := (true, [([], []), ([], []), ([], []), ([1, 2], [1, 2]), ([3], [3]), ([0, 4], [0, 4]), ([5], [5]), ([6], [6]), ([6], [6]), ([7, 8, 6], [6, 7, 8]), ([9, 6], [6, 9]), ([6], [6]), ([6], [6]), ([6], [6]), ([12, 13, 6], [6, 12, 13]), ([14, 6], [6, 14]), ([11, 15, 6], [6, 11, 15]), ([10, 16, 6], [6, 10, 16]), ([17, 6], [6, 17]), ([6], [6]), ([6], [6]), ([19, 20, 6], [6, 19, 20]), ([21, 6], [6, 21]), ([18, 22, 6], [6, 18, 22]), ([6, 23], [6, 23]), ([24, 6], [24])])
def impl_ChangeFrom.B22 : List Nat := [0, 0, 0, 6, 14, 31, 63, 127, 127, 511, 1023, 127, 127, 127, 12415, 28799, 63615, 131071, 262143, 127, 127, 1572991, 3670143, 8388607, 16777215, 33554431]
theorem impl_ChangeFrom.tab22 : rtab .any (opsOf Try.f36 22) = impl_ChangeFrom.T22 := by kernel_rfl
theorem impl_ChangeFrom.bits22 : waitsOk impl_ChangeFrom.T22.2 impl_ChangeFrom.B22 = true := by kernel_rfl
def impl_ChangeFrom.T23 : Bool × List (List Nat × List Nat) := (true, [([], []), ([], []), ([0, 1], [0, 1]), ([2], [2]), ([], []), ([], []), ([], []), ([5, 6], [5, 6]), ([7], [7]), ([], []), ([], []), ([], []), ([10, 11], [10, 11]), ([12], [12]), ([9, 13], [9, 13]), ([8, 14], [8, 14]), ([15], [15]), ([16], [16]), ([3, 4, 0, 1, 2, 3, 4, 5, 6, 7, 8, 9, 10, 11, 12, 13, 14, 15, 16, 17], [3, 4]), ([18, 17, 0, 1, 2, 3, 4, 5, 6, 7, 8, 9, 10, 11, 12, 13, 14, 15, 16, 17], [17, 18])])
def impl_ChangeFrom.B23 : List Nat := [0, 0, 3, 7, 0, 0, 0, 96, 224, 0, 0, 0, 3072, 7168, 15872, 32736, 65504, 131040, 262143, 524287]
theorem impl_ChangeFrom.tab23 : rtab .any (opsOf Try.f36 23) = impl_ChangeFrom.T23 := by kernel_rfl
theorem impl_ChangeFrom.bits23 : waitsOk impl_ChangeFrom.T23.2 impl_ChangeFrom.B23 = true := by kernel_rfl
set_option maxHeartbeats 8000000 in
set_option maxRecDepth 100000 in
theorem impl_ChangeFrom.calls (k : Nat) (A0 : Option Addr) (c0 : Nat) (l0 : List Int) (A1 : Option Addr) (c1 : Nat) (l1 : List Int) (a2 : Int) (r1 : List Int) (r2 : Bool) (w : World) (hr0 : Kd.C (Kd.int .i64) w A0 l0.length l0) (hc0 : l0.length ≤ c0) (hr1 : Kd.C (Kd.int .i64) w A1 l1.length l1) (hc1 : l1.length ≤ c1) (h : impl_ChangeFrom.f k l0 l1 a2 = some (r1, r2)) :
    Calls Try.prog 36 #[.slice A0 l0.length c0, .slice A1 l1.length c1, .int .i64 a2] w fun e w' => ∃ v0_ : Value, e = .returned (.tuple #[v0_, .bool r2]) ∧ Kd.R (Kd.int .i64) 3 w' w.heap.size (fun _ => True) v0_ r1 ∧ Below w.heap.size w w' := by
  have HR0 := Aside0.mk hr0
  have HC0 := Aside0.mk hc0
  clear hr0 hc0
  have HR1 := Aside0.mk hr1
  have HC1 := Aside0.mk hc1
  clear hr1 hc1
  have HB := Aside0.mk (Below.refl w.heap.size w)
  have H : ((impl_isPurse.f k l0 l1 a2).bind fun t153 => (if t153 = true then (if 0 ≤ (wrap64 ((l0.length : Int) + 1)) then (if (wrap64 ((l0.length : Int) + 1) : Int).toNat ≤ 11728124029610 then (if 0 ≤ (wrap64 (a2 + 1)) then (if (wrap64 (a2 + 1) : Int).toNat ≤ 35184372088832 then ((some (List.replicate (wrap64 (a2 + 1) : Int).toNat 0 : List Int)).bind fun y157 => (impl_ChangeFrom.l0 k l0 l1 a2 (List.replicate (wrap64 ((l0.length : Int) + 1) : Int).toNat []) y157 (y157.length : Int) 0)) else (none)) else (none)) else (none)) else (none)) else (some (([] : List Int), false)))) = some (r1, r2) := h
  clear h
  replace H := Option.bind_eq_some_iff.mp H
  obtain ⟨t153, A40, H⟩ := H
  replace H : (if t153 = true then (if 0 ≤ (wrap64 ((l0.length : Int) + 1)) then (if (wrap64 ((l0.length : Int) + 1) : Int).toNat ≤ 11728124029610 then (if 0 ≤ (wrap64 (a2 + 1)) then (if (wrap64 (a2 + 1) : Int).toNat ≤ 35184372088832 then ((some (List.replicate (wrap64 (a2 + 1) : Int).toNat 0 : List Int)).bind fun y157 => (impl_ChangeFrom.l0 k l0 l1 a2 (List.replicate (wrap64 ((l0.length : Int) + 1) : Int).toNat []) y157 (y157.length : Int) 0)) else (none)) else (none)) else (none)) else (none)) else (some (([] : List Int), false))) = some (r1, r2) := H
  have A4 := Aside0.mk A40
  clear A40
  by_cases c5 : t153 = true
  · subst c5
    have H1 : (if 0 ≤ (wrap64 ((l0.length : Int) + 1)) then (if (wrap64 ((l0.length : Int) + 1) : Int).toNat ≤ 11728124029610 then (if 0 ≤ (wrap64 (a2 + 1)) then (if (wrap64 (a2 + 1) : Int).toNat ≤ 35184372088832 then ((some (List.replicate (wrap64 (a2 + 1) : Int).toNat 0 : List Int)).bind fun y157 => (impl_ChangeFrom.l0 k l0 l1 a2 (List.replicate (wrap64 ((l0.length : Int) + 1) : Int).toNat []) y157 (y157.length : Int) 0)) else (none)) else (none)) else (none)) else (none)) = some (r1, r2) := by rw [if_pos rfl] at H; exact H
    clear H
    have H := H1
    clear H1
    obtain ⟨ji6, hji6⟩ : ∃ j_ : Int, (wrap64 ((l0.length : Int) + 1)) = j_ := ⟨_, rfl⟩
    replace H : (if 0 ≤ (ji6) then (if (ji6 : Int).toNat ≤ 11728124029610 then (if 0 ≤ (wrap64 (a2 + 1)) then (if (wrap64 (a2 + 1) : Int).toNat ≤ 35184372088832 then ((some (List.replicate (wrap64 (a2 + 1) : Int).toNat 0 : List Int)).bind fun y157 => (impl_ChangeFrom.l0 k l0 l1 a2 (List.replicate (ji6 : Int).toNat []) y157 (y157.length : Int) 0)) else (none)) else (none)) else (none)) else (none)) = some (r1, r2) := by first | (rw [hji6] at H; exact H) | (simp only [hji6] at H ⊢; exact H)
    (try rw [hji6] at A4)
    have hji6w : (IntKind.i64.wrap ((l0.length : Int) + 1)) = ji6 := (i64_w _).trans hji6
    by_cases c7 : 0 ≤ (ji6)
    · rw [if_pos c7] at H
      have c7b0 := eq_true c7
      have c7b1 : decide (0 ≤ (ji6)) = true := decide_eq_true c7
      clear c7
      by_cases c8 : (ji6 : Int).toNat ≤ 11728124029610
      · rw [if_pos c8] at H
        have c8b0 := eq_true c8
        have c8b1 : decide ((ji6 : Int).toNat ≤ 11728124029610) = true := decide_eq_true c8
        clear c8
        obtain ⟨y154, hy154⟩ : ∃ y_ : List (List Int), y_ = (List.replicate (ji6 : Int).toNat []) := ⟨_, rfl⟩
        replace H : (if 0 ≤ (wrap64 (a2 + 1)) then (if (wrap64 (a2 + 1) : Int).toNat ≤ 35184372088832 then ((some (List.replicate (wrap64 (a2 + 1) : Int).toNat 0 : List Int)).bind fun y157 => (impl_ChangeFrom.l0 k l0 l1 a2 y154 y157 (y157.length : Int) 0)) else (none)) else (none)) = some (r1, r2) := by first | (rw [hy154]; with_reducible exact H) | (have H2_ := (Option.bind_some _ _).symm.trans H; rw [hy154]; with_reducible exact H2_) | (have H2_ := (Option.bind_some _ _).symm.trans H; with_reducible exact H2_) | with_reducible exact H | (rw [hy154]; exact H) | exact H
        have Ny154 := Aside0.mk hy154
        clear hy154
        obtain ⟨ji9, hji9⟩ : ∃ j_ : Int, (wrap64 (a2 + 1)) = j_ := ⟨_, rfl⟩
        replace H : (if 0 ≤ (ji9) then (if (ji9 : Int).toNat ≤ 35184372088832 then ((some (List.replicate (ji9 : Int).toNat 0 : List Int)).bind fun y157 => (impl_ChangeFrom.l0 k l0 l1 a2 y154 y157 (y157.length : Int) 0)) else (none)) else (none)) = some (r1, r2) := by first | (rw [hji9] at H; exact H) | (simp only [hji9] at H ⊢; exact H)
        (try rw [hji9] at A4)
        have hji9w : (IntKind.i64.wrap (a2 + 1)) = ji9 := (i64_w _).trans hji9
        by_cases c10 : 0 ≤ (ji9)
        · rw [if_pos c10] at H
          have c10b0 := eq_true c10
          have c10b1 : decide (0 ≤ (ji9)) = true := decide_eq_true c10
          clear c10
          by_cases c11 : (ji9 : Int).toNat ≤ 35184372088832
          · rw [if_pos c11] at H
            have c11b0 := eq_true c11
            have c11b1 : decide ((ji9 : Int).toNat ≤ 35184372088832) = true := decide_eq_true c11
            clear c11
            obtain ⟨y157, hy157⟩ : ∃ y_ : List Int, y_ = (List.replicate (ji9 : Int).toNat 0) := ⟨_, rfl⟩
            replace H : (impl_ChangeFrom.l0 k l0 l1 a2 y154 y157 (y157.length : Int) 0) = some (r1, r2) := by first | (rw [hy157]; with_reducible exact H) | (have H2_ := (Option.bind_some _ _).symm.trans H; rw [hy157]; with_reducible exact H2_) | (have H2_ := (Option.bind_some _ _).symm.trans H; with_reducible exact H2_) | with_reducible exact H | (rw [hy157]; exact H) | exact H
            have Ny157 := Aside0.mk hy157
            clear hy157
            have H' := Aside0.mk H
            clear H
            go_enter Try.func36, Try.ntmps36
            go_wp2_with (first | ((with_reducible refine gate_callee (f := 55) rfl ?_); refine goesL_ (some 20) rfl rfl Try.func55 (by kernel_rfl) rfl #[.slice A0 l0.length c0, .slice A1 l1.length c1, .int .i64 a2] rfl (by (try simp only [List.map_toArray, List.map_cons, List.map_nil]); first | done | rfl | (simp only [List.length_drop, List.length_take]; rfl)) ?_; (with_reducible refine (impl_isPurse.calls k _ _ l0 _ _ l1 a2 true _ ?side1 ?side2 ?side3 ?side4 A4.out).mono ?_); (case side1 => repeat (first | exact HR0.out | (with_reducible refine Kd.C_alloc ?_ _) | (with_reducible refine Kd.C_drewN ?_ _) | (with_reducible refine Kd.C_drew ?_))); (case side2 => exact HC0.out); (case side3 => repeat (first | exact HR1.out | (with_reducible refine Kd.C_alloc ?_ _) | (with_reducible refine Kd.C_drewN ?_ _) | (with_reducible refine Kd.C_drew ?_))); (case side4 => exact HC1.out); rintro e w12 ⟨rfl, hb⟩; refine ⟨_, rfl, ?_⟩; have n0_ := Aside0.mk (below_step (by repeat (first | (with_reducible first | exact HB.out | apply below_alloc | apply pw_below_drewN | apply below_drew1) | exact HB.out)) hb); clear HB; have HB := n0_; clear n0_; (try clear hb); (try clear hb2); (try clear hk); (try clear hi)) | ((with_reducible refine gate_dst (N := 25) rfl ?_); refine Kd.S_make (Kd.slice 3 (Kd.int .i64)) _ 22 rfl (N := 25) rfl 47 _ _ rfl ji6 rfl rfl Try.underlying47 (.slice none 0 0) 24 info22 rfl (by decide) (by omega) [] (ok := fun _ => True) (okp := fun _ => True) ⟨_, rfl, Kd.R_nil _ _ _ _ _⟩ (fun _ hk => hk) trivial (of_decide_eq_true (by first | (with_reducible assumption) | assumption)) (Nat.le_trans (Nat.mul_le_mul_right _ (of_decide_eq_true (by first | (with_reducible assumption) | assumption) : ji6.toNat ≤ 11728124029610)) (by omega)) (Below.refl _ _) (Nat.le_refl _) ?_; intro v155 w13 ho14 hb hg_ hnew_; clear hg_ hnew_; (first | rw [← Ny154.out] at ho14 | (simp only [Int.reduceToNat] at ho14; rw [← Ny154.out] at ho14)); have n0_ := Aside0.mk (Kd.S_lower ho14 (below_size (by repeat (first | (with_reducible first | exact HB.out | apply below_alloc | apply pw_below_drewN | apply below_drew1) | exact HB.out)))); have n1_ := Aside0.mk (below_step (by repeat (first | (with_reducible first | exact HB.out | apply below_alloc | apply pw_below_drewN | apply below_drew1) | exact HB.out)) hb); clear HB; have HO156 := n0_; have HB := n1_; clear n0_ n1_; clear hb ho14) | ((with_reducible refine gate_dst (N := 28) rfl ?_); refine Kd.R_make (Kd.int .i64) _ 3 rfl (N := 28) rfl 22 _ _ rfl ji9 rfl rfl Try.underlying22 (.int .i64 0) 8 info3 rfl (by decide) (by omega) 0 (ok := fun _ => True) (okp := fun _ => True) rfl (fun _ hk => hk) trivial (of_decide_eq_true (by first | (with_reducible assumption) | assumption)) (Nat.le_trans (Nat.mul_le_mul_right _ (of_decide_eq_true (by first | (with_reducible assumption) | assumption) : ji9.toNat ≤ 35184372088832)) (by omega)) (Below.refl _ _) (Nat.le_refl _) ?_; intro v158 w15 ho16 hb hg_ hnew_; clear hg_ hnew_; (first | rw [← Ny157.out] at ho16 | (simp only [Int.reduceToNat] at ho16; rw [← Ny157.out] at ho16)); have n0_ := Aside0.mk (Kd.S_elder' (by (with_reducible repeat (first | apply Kd.S_alloc | apply Kd.S_drewN | apply Kd.S_drew)); exact HO156.out) (Kd.R_base ho16) hb); have n1_ := Aside0.mk (Kd.R_lower ho16 (below_size (by repeat (first | (with_reducible first | exact HB.out | apply below_alloc | apply pw_below_drewN | apply below_drew1) | exact HB.out)))); have n2_ := Aside0.mk (below_step (by repeat (first | (with_reducible first | exact HB.out | apply below_alloc | apply pw_below_drewN | apply below_drew1) | exact HB.out)) hb); clear HO156; clear HB; have HO156 := n0_; have HO159 := n1_; have HB := n2_; clear n0_ n1_ n2_; clear hb ho16; obtain ⟨Ao17, co17, eo17⟩ := Kd.R_slice HO159.out; subst eo17))
            go_loopg [31] k (fun kq v31 w' => ∃ (x9_1 : List Int) (x31_1 : Int), v31 = .int .i64 x31_1 ∧ Aside0 (impl_ChangeFrom.l0 kq l0 l1 a2 y154 x9_1 (y157.length : Int) x31_1 = some (r1, r2)) ∧ Aside0 (kq ≤ k) ∧ Aside0 (Kd.S (Kd.slice 3 (Kd.int .i64)) 22 w' w.heap.size (fun k_ => some k_ ≠ ((.slice Ao17 y157.length co17) : Value).ownBlock) v155 y154) ∧ Aside0 (Kd.R (Kd.int .i64) 3 w' w.heap.size (fun _ => True) (.slice Ao17 y157.length co17) x9_1) ∧ Aside0 (Below w.heap.size w w'))
            case atStart => exact ⟨(y157), (0), (by first | rfl | (simp; done) | (simp [*]; done)), H', ⟨Nat.le_refl _⟩, ⟨by (with_reducible repeat (first | apply Kd.S_alloc | apply Kd.S_drewN | apply Kd.S_drew)); exact Kd.S_mono HO156.out (fun _ hk => hk.2)⟩, ⟨by (with_reducible repeat (first | apply Kd.R_alloc | apply Kd.R_drewN | apply Kd.R_drew)); exact HO159.out⟩, ⟨by repeat (first | (with_reducible first | exact HB.out | apply below_alloc | apply pw_below_drewN | apply below_drew1) | exact HB.out)⟩⟩
            case round =>
              clear H'
              try clear c1
              try clear p2
              try clear c3
              try clear c5
              try clear p6
              try clear c7
              try clear c7b0
              try clear c7b1
              try clear c8
              try clear c8b0
              try clear c8b1
              try clear c10
              try clear c10b0
              try clear c10b1
              try clear c11
              try clear c11b0
              try clear c11b1
              obtain ⟨x9_1, x31_1, rfl, HA, HK1, HO_8, HO_9, HB⟩ := hrel
              have hl9_1 := (Kd.R_reads' HO_9.out).1
              rw [hl9_1] at HO_9
              (try simp only [hl9_1])
              (try simp only [hl9_1] at HO_8)
              cases gk with
              | zero => exact absurd HA.out (by simp [impl_ChangeFrom.l0])
              | succ k1 =>
                have H := HA.out
                clear HA
                simp only [impl_ChangeFrom.l0] at H
                by_cases c18 : x31_1 < (y157.length : Int)
                · rw [if_pos c18] at H
                  have c18b0 : decide (x31_1 < (y157.length : Int)) = true := decide_eq_true c18
                  have c18b0x := c18b0
                  (try simp only [hl9_1] at c18b0x)
                  clear c18
                  by_cases c19 : 0 ≤ x31_1
                  · rw [if_pos c19] at H
                    have c19b0 : decide (0 ≤ x31_1) = true := decide_eq_true c19
                    clear c19
                    by_cases c20 : x31_1 < (x9_1.length : Int)
                    · rw [if_pos c20] at H
                      have c20b0 : decide (x31_1 < (x9_1.length : Int)) = true := decide_eq_true c20
                      have c20b0x := c20b0
                      (try simp only [hl9_1] at c20b0x)
                      clear c20
                      obtain ⟨y160, hy160⟩ : ∃ y_ : List Int, y_ = (x9_1.set (x31_1 : Int).toNat 1001) := ⟨_, rfl⟩
                      replace H : (impl_ChangeFrom.l0 k1 l0 l1 a2 y154 y160 (y157.length : Int) (wrap64 (x31_1 + 1))) = some (r1, r2) := by first | (rw [hy160]; with_reducible exact H) | (have H2_ := (Option.bind_some _ _).symm.trans H; rw [hy160]; with_reducible exact H2_) | (have H2_ := (Option.bind_some _ _).symm.trans H; with_reducible exact H2_) | with_reducible exact H | (rw [hy160]; exact H) | exact H
                      have Ny160 := Aside0.mk hy160
                      clear hy160
                      have H' := Aside0.mk H
                      clear H
                      have p21 : 0 ≤ (x31_1 : Int) := of_decide_eq_true (by first | (with_reducible assumption) | assumption)
                      have q21 : (x31_1 : Int) < ((x9_1.length : Int) : Int) := of_decide_eq_true (by first | (with_reducible assumption) | assumption)
                      obtain ⟨go21, co21, eo21, gb21, gl21, cl21, HG21⟩ := Kd.R_form HO_9.out (by omega)
                      (first | cases eo21 | (injection eo21 with ea_ en_ ec_; (first | subst ea_ | (injection ea_ with ea_; subst ea_)); subst ec_; clear en_))
                      have GB21 := Aside0.mk gb21
                      have GG21 := Aside0.mk HG21
                      clear gb21 gl21 HG21
                      obtain ⟨hx21_0, hf21_0⟩ := Kd.R_celln 0 HO_9.out (x31_1 : Int) p21 q21
                      replace p21 := eq_true p21
                      replace q21 := eq_true q21
                      have HP22 := Kd.R_putg HO_9.out (x31_1 : Int) 1001
                      go_wp2_with (first | ((with_reducible refine gate_store (t := 3) (p := 36) rfl ?_); refine store_event (t := 3) (p := 36) (v := ?vo_w23) (w1 := (wr.setCell ⟨go21, (x31_1 : Int).toNat, none⟩ (.int .i64 1001))) ?hg ?ho ?hn ?hr ?_; (case ho => rfl); (case hg => rfl); (case hn => rfl); (case hr => first | (go_simp; done) | (go_simp; rfl)); intro w23 hw; have hg : wr.grownBy w23 (some go21) := (by rw [hw]; exact HP22.2); have hp_ : Kd.R (Kd.int .i64) 3 w23 w.heap.size (fun _ => True) (.slice (some ⟨go21, 0, none⟩) x9_1.length co17) y160 := (by rw [hw, Ny160.out]; exact HP22.1); clear HP22; have n0_ := Aside0.mk (Kd.S_after (v := (.slice (some ⟨go21, 0, none⟩) x9_1.length co17)) (v1 := (.slice (some ⟨go21, 0, none⟩) x9_1.length co17)) (ok := (fun _ => True)) (by (with_reducible repeat (first | apply Kd.S_alloc | apply Kd.S_drewN | apply Kd.S_drew)); exact Kd.S_mono HO_8.out (fun _ hk => ⟨trivial, hk⟩)) hg (.inl rfl)); have n1_ := Aside0.mk (hp_); have n2_ := Aside0.mk ((by rw [hw]; exact below_set (HB.out) GB21.out : Below w.heap.size w w23)); clear HO_8; clear HO_9; clear HB; have HO_8 := n0_; have HO_9 := n1_; have HB := n2_; clear n0_ n1_ n2_; clear hg hw hp_))
                      (try simp only [← hl9_1])
                      go_roundg k1
                      case measure => have := HK1.out; omega
                      case rel => exact ⟨(y160), (wrap64 (x31_1 + 1)), (by first | rfl | (simp; done) | (simp [*]; done)), H', ⟨by have := HK1.out; omega⟩, ⟨by (try simp only [hl9_1]); (with_reducible repeat (first | apply Kd.S_alloc | apply Kd.S_drewN | apply Kd.S_drew)); exact Kd.S_mono HO_8.out (fun _ hk => hk.2)⟩, ⟨by (try simp only [hl9_1]); (with_reducible repeat (first | apply Kd.R_alloc | apply Kd.R_drewN | apply Kd.R_drew)); exact HO_9.out⟩, ⟨by repeat (first | (with_reducible first | exact HB.out | apply below_alloc | apply pw_below_drewN | apply below_drew1) | exact HB.out)⟩⟩
                    · rw [if_neg c20] at H
                      exact absurd H (by simp)
                  · rw [if_neg c19] at H
                    exact absurd H (by simp)
                · rw [if_neg c18] at H
                  have c18b0 : decide (x31_1 < (y157.length : Int)) = false := decide_eq_false c18
                  have c18b0x := c18b0
                  (try simp only [hl9_1] at c18b0x)
                  clear c18
                  by_cases c24 : 0 < (x9_1.length : Int)
                  · rw [if_pos c24] at H
                    have c24b0 : decide (0 < (x9_1.length : Int)) = true := decide_eq_true c24
                    have c24b0x := c24b0
                    (try simp only [hl9_1] at c24b0x)
                    have c24b1 : decide (0 < x9_1.length) = true := decide_eq_true (by omega)
                    clear c24
                    obtain ⟨y161, hy161⟩ : ∃ y_ : List Int, y_ = (x9_1.set (0 : Int).toNat 0) := ⟨_, rfl⟩
                    replace H : (if 0 ≤ (l0.length : Int) then (if (l0.length : Int) < (y154.length : Int) then (impl_ChangeFrom.l1 k1 l0 l1 a2 (y154.set ((l0.length : Int) : Int).toNat y161) (wrap64 ((l0.length : Int) - 1))) else (none)) else (none)) = some (r1, r2) := by first | (rw [hy161]; with_reducible exact H) | (have H2_ := (Option.bind_some _ _).symm.trans H; rw [hy161]; with_reducible exact H2_) | (have H2_ := (Option.bind_some _ _).symm.trans H; with_reducible exact H2_) | with_reducible exact H | (rw [hy161]; exact H) | exact H
                    have Ny161 := Aside0.mk hy161
                    clear hy161
                    by_cases c26 : 0 ≤ (l0.length : Int)
                    · rw [if_pos c26] at H
                      have c26b0 : decide (0 ≤ (l0.length : Int)) = true := decide_eq_true c26
                      have c26b1 : decide (0 ≤ l0.length) = true := decide_eq_true (by omega)
                      clear c26
                      by_cases c27 : (l0.length : Int) < (y154.length : Int)
                      · rw [if_pos c27] at H
                        have c27b0 : decide ((l0.length : Int) < (y154.length : Int)) = true := decide_eq_true c27
                        have c27b0x := c27b0
                        (try simp only [hl9_1] at c27b0x)
                        have c27b1 : decide (l0.length < y154.length) = true := decide_eq_true (Int.ofNat_lt.mp c27)
                        clear c27
                        obtain ⟨y162, hy162⟩ : ∃ y_ : List (List Int), y_ = (y154.set ((l0.length : Int) : Int).toNat y161) := ⟨_, rfl⟩
                        replace H : (impl_ChangeFrom.l1 k1 l0 l1 a2 y162 (wrap64 ((l0.length : Int) - 1))) = some (r1, r2) := by first | (rw [hy162]; with_reducible exact H) | (have H2_ := (Option.bind_some _ _).symm.trans H; rw [hy162]; with_reducible exact H2_) | (have H2_ := (Option.bind_some _ _).symm.trans H; with_reducible exact H2_) | with_reducible exact H | (rw [hy162]; exact H) | exact H
                        have Ny162 := Aside0.mk hy162
                        clear hy162
                        have H' := Aside0.mk H
                        clear H
                        have p25 : 0 ≤ (0 : Int) := (by omega)
                        have q25 : (0 : Int) < ((x9_1.length : Int) : Int) := of_decide_eq_true (by first | (with_reducible assumption) | assumption)
                        have qi25 : (0 < x9_1.length) = True := eq_true (by omega)
                        obtain ⟨go25, co25, eo25, gb25, gl25, cl25, HG25⟩ := Kd.R_form HO_9.out (by omega)
                        (first | cases eo25 | (injection eo25 with ea_ en_ ec_; (first | subst ea_ | (injection ea_ with ea_; subst ea_)); subst ec_; clear en_))
                        have GB25 := Aside0.mk gb25
                        have GG25 := Aside0.mk HG25
                        clear gb25 gl25 HG25
                        obtain ⟨hx25_0, hf25_0⟩ := Kd.R_celln 0 HO_9.out (0 : Int) p25 q25
                        (try rw [show ((0 : Int)).toNat = 0 from rfl] at hx25_0)
                        (try simp only [Nat.reduceMul, Nat.zero_mul, Nat.zero_add, Nat.reduceAdd] at hx25_0)
                        (try rw [show ((0 : Int)).toNat = 0 from rfl] at hf25_0)
                        (try simp only [Nat.reduceMul, Nat.zero_mul, Nat.zero_add, Nat.reduceAdd] at hf25_0)
                        replace p25 := eq_true p25
                        replace q25 := eq_true q25
                        have HP29 := Kd.R_putg HO_9.out (0 : Int) 0
                        go_wp2_with (first | ((with_reducible refine gate_store (t := 3) (p := 39) rfl ?_); refine store_event (t := 3) (p := 39) (v := ?vo_w30) (w1 := (wr.setCell ⟨go25, (0 : Int).toNat, none⟩ (.int .i64 0))) ?hg ?ho ?hn ?hr ?_; (case ho => rfl); (case hg => rfl); (case hn => rfl); (case hr => first | (go_simp; done) | (go_simp; rfl)); intro w30 hw; have hg : wr.grownBy w30 (some go25) := (by rw [hw]; exact HP29.2); have hp_ : Kd.R (Kd.int .i64) 3 w30 w.heap.size (fun _ => True) (.slice (some ⟨go25, 0, none⟩) x9_1.length co17) y161 := (by rw [hw, Ny161.out]; exact HP29.1); clear HP29; have n0_ := Aside0.mk (Kd.S_after (v := (.slice (some ⟨go25, 0, none⟩) x9_1.length co17)) (v1 := (.slice (some ⟨go25, 0, none⟩) x9_1.length co17)) (ok := (fun _ => True)) (by (with_reducible repeat (first | apply Kd.S_alloc | apply Kd.S_drewN | apply Kd.S_drew)); exact Kd.S_mono HO_8.out (fun _ hk => ⟨trivial, hk⟩)) hg (.inl rfl)); have n1_ := Aside0.mk (hp_); have n2_ := Aside0.mk ((by rw [hw]; exact below_set (HB.out) GB25.out : Below w.heap.size w w30)); clear HO_8; clear HO_9; clear HB; have HO_8 := n0_; have HO_9 := n1_; have HB := n2_; clear n0_ n1_ n2_; clear hg hw hp_; have p28 : 0 ≤ ((l0.length : Int) : Int) := of_decide_eq_true (by first | (with_reducible assumption) | assumption); have q28 : ((l0.length : Int) : Int) < ((y154.length : Int) : Int) := of_decide_eq_true (by first | (with_reducible assumption) | assumption); obtain ⟨go28, co28, eo28, gb28, gl28, cl28, HG28⟩ := Kd.S_form HO_8.out (by omega); (first | cases eo28 | (injection eo28 with ea_ en_ ec_; (first | subst ea_ | (injection ea_ with ea_; subst ea_)); subst ec_; clear en_)); have GB28 := Aside0.mk gb28; have GG28 := Aside0.mk HG28; clear gb28 gl28 HG28; obtain ⟨_, ce28, hcl28, hM28, hcc28, hfr28, _, _⟩ := Kd.S_elem HO_8.out [] ((l0.length : Int) : Int) p28 q28; obtain ⟨ve28_0, rfl, ge28_0⟩ := hM28; have hx28_0 := hcc28 0 _ rfl; have hf28_0 := hfr28 0; (try simp only [show ((Kd.slice 3 (Kd.int .i64))).sz = 1 from rfl, Nat.mul_one, Nat.add_zero, Int.toNat_natCast] at hx28_0); (try simp only [show ((Kd.slice 3 (Kd.int .i64))).sz = 1 from rfl, Nat.mul_one, Nat.add_zero, Int.toNat_natCast] at hf28_0); (try clear hcl28); (try clear hcc28); (try clear hfr28); (try clear hM28); replace p28 := eq_true p28; replace q28 := eq_true q28; have n_ := Aside0.mk (Kd.S_mono (ok' := (fun k_ => some k_ ≠ (.slice (some ⟨go25, 0, none⟩) x9_1.length co17 : Value).ownBlock)) HO_8.out (fun k_ hk => hk.2)); clear HO_8; have HO_8 := n_; clear n_; have HX31 := Aside0.mk (show Kd.S (Kd.slice 3 (Kd.int .i64)) 22 w30 w.heap.size (fun k_ => ((fun _ => True)) k_ ∧ ¬ ((fun k_ => some k_ = (.slice (some ⟨go25, 0, none⟩) x9_1.length co17 : Value).ownBlock)) k_) (.slice (some ⟨go28, 0, none⟩) y154.length co28) y154 from (by (with_reducible repeat (first | apply Kd.S_alloc | apply Kd.S_drewN | apply Kd.S_drew)); exact Kd.S_mono HO_8.out (fun k_ hk => ⟨trivial, fun e_ => hk e_⟩))); obtain ⟨oki31, ce31, hcl31, hM31, hcc31, hfr31, hoki31, hH31⟩ := Kd.S_elem HX31.out [] ((l0.length : Int) : Int) (of_decide_eq_true (by first | (with_reducible assumption) | assumption)) (by have h_ : ((l0.length : Int) : Int) < ((y154.length : Int) : Int) := of_decide_eq_true (by first | (with_reducible assumption) | assumption); first | exact h_ | (have e_ := (Kd.S_reads' HO_8.out).1; omega) | simpa using h_); obtain ⟨ve31_0, rfl, ge31_0⟩ := hM31; have HP31 := Kd.S_seg hH31 (of_decide_eq_true (by first | (with_reducible assumption) | assumption)) (by have h_ : ((l0.length : Int) : Int) < ((y154.length : Int) : Int) := of_decide_eq_true (by first | (with_reducible assumption) | assumption); first | exact h_ | (have e_ := (Kd.S_reads' HO_8.out).1; omega) | simpa using h_) (seg := [.slice (some ⟨go25, 0, none⟩) x9_1.length co17]) (j := 0) (show 1 ≤ 1 from by decide) (x' := y161) (Kd.M_row (Kd.R_mono (Kd.R_tight rfl (Kd.R_mono (ok' := fun k_ => ((fun _ => True)) k_ ∧ k_ ≠ go28) (Kd.R_apart' (HO_9.out) (Kd.S_typed HO_8.out) (by decide)) (fun k_ hk => ⟨trivial, fun e_ => (hk.2) (by rw [e_]; rfl)⟩))) (fun _ h_ => Or.inr (h_)))) (fun _ hk => hk) (fun k_ hk_ => ((Kd.R_mono (ok' := fun k_ => ((fun _ => True)) k_ ∧ k_ ≠ go28) (Kd.R_apart' (HO_9.out) (Kd.S_typed HO_8.out) (by decide)) (fun k_ hk => ⟨trivial, fun e_ => (hk.2) (by rw [e_]; rfl)⟩))).1 k_ hk_.symm); have hx31_0 := hcc31 0 _ rfl; (try simp only [show ((Kd.slice 3 (Kd.int .i64))).sz = 1 from rfl, Nat.mul_one, Nat.add_zero] at hx31_0); have hf31_0 := hfr31 0; (try simp only [show ((Kd.slice 3 (Kd.int .i64))).sz = 1 from rfl, Nat.mul_one, Nat.add_zero] at hf31_0); (try clear hcl31); (try clear hcc31); (try clear hfr31); (try clear hM31); (try clear hoki31); (try clear hH31); (try simp only [show ((Kd.slice 3 (Kd.int .i64))).sz = 1 from rfl, Nat.mul_one, Nat.add_zero] at HP31)) | ((with_reducible refine gate_store (t := 22) (p := 44) rfl ?_); refine store_event (t := 22) (p := 44) (v := ?vo_w32) (w1 := (w30.setCell ⟨go28, ((l0.length : Int) : Int).toNat, none⟩ (.slice (some ⟨go25, 0, none⟩) x9_1.length co17))) ?hg ?ho ?hn ?hr ?_; (case ho => rfl); (case hg => rfl); (case hn => rfl); (case hr => first | (go_simp; done) | (go_simp; rfl)); intro w32 hw; have hg : w30.grownBy w32 (some go28) := (by rw [hw]; exact HP31.2); have hp_ : Kd.S (Kd.slice 3 (Kd.int .i64)) 22 w32 w.heap.size (fun _ => True) (.slice (some ⟨go28, 0, none⟩) y154.length co28) y162 := (by rw [hw, Ny162.out]; exact HP31.1); clear HP31; have n0_ := Aside0.mk (hp_); have n1_ := Aside0.mk ((by rw [hw]; exact below_set (HB.out) GB28.out : Below w.heap.size w w32)); clear HO_8; clear HB; clear HO_9; have HO_8 := n0_; have HB := n1_; clear n0_ n1_; clear hg hw hp_))
                        go_loopg [11] k1 (fun kq v11 w' => ∃ (x8_2 : List (List Int)) (x11_2 : Int), v11 = .int .i64 x11_2 ∧ Aside0 (impl_ChangeFrom.l1 kq l0 l1 a2 x8_2 x11_2 = some (r1, r2)) ∧ Aside0 (kq ≤ k1) ∧ Aside0 (Kd.S (Kd.slice 3 (Kd.int .i64)) 22 w' w.heap.size (fun _ => True) (.slice (some ⟨go28, 0, none⟩) y154.length co28) x8_2) ∧ Aside0 (Below w.heap.size w w'))
                        case atStart => exact ⟨(y162), (wrap64 ((l0.length : Int) - 1)), (by first | rfl | (simp; done) | (simp [*]; done)), H', ⟨Nat.le_refl _⟩, ⟨by (try simp only [hl9_1]); (with_reducible repeat (first | apply Kd.S_alloc | apply Kd.S_drewN | apply Kd.S_drew)); exact HO_8.out⟩, ⟨by repeat (first | (with_reducible first | exact HB.out | apply below_alloc | apply pw_below_drewN | apply below_drew1) | exact HB.out)⟩⟩
                        case round =>
                          clear H'
                          try clear c1
                          try clear c2
                          try clear p2
                          try clear q2
                          try clear hx2
                          try clear qi2
                          try clear c3
                          try clear hx3
                          try clear hf3
                          try clear c5
                          try clear p6
                          try clear c7
                          try clear c7b0
                          try clear c7b1
                          try clear c8
                          try clear c8b0
                          try clear c8b1
                          try clear c10
                          try clear c10b0
                          try clear c10b1
                          try clear c11
                          try clear c11b0
                          try clear c11b1
                          try clear c18
                          try clear c18b0
                          try clear c19
                          try clear c19b0
                          try clear c20
                          try clear c20b0
                          try clear p21
                          try clear q21
                          try clear hx21
                          try clear hf21
                          try clear c24
                          try clear c24b0
                          try clear c24b1
                          try clear p25
                          try clear q25
                          try clear hx25
                          try clear qi25
                          try clear hf25
                          try clear c26
                          try clear c26b0
                          try clear c26b1
                          try clear c27
                          try clear c27b0
                          try clear c27b1
                          try clear c28
                          try clear p28
                          try clear q28
                          try clear hx28
                          try clear hf28
                          try clear c31
                          try clear hx31
                          try clear hf31
                          try clear hx21_0
                          try clear hx25_0
                          try clear hx28_0
                          try clear hx31_0
                          try clear p2
                          try clear p21
                          try clear p25
                          try clear p28
                          try clear p6
                          try clear q21
                          try clear q25
                          try clear q28
                          obtain ⟨x8_2, x11_2, rfl, HA, HK2, HO_8, HB⟩ := hrel
                          have hl8_2 := (Kd.S_reads' HO_8.out).1
                          rw [hl8_2] at HO_8
                          (try simp only [hl8_2])
                          cases gk with
                          | zero => exact absurd HA.out (by simp [impl_ChangeFrom.l1])
                          | succ k2 =>
                            have H := HA.out
                            clear HA
                            simp only [impl_ChangeFrom.l1] at H
                            by_cases c33 : x11_2 ≥ 0
                            · rw [if_pos c33] at H
                              have c33b0 : decide (0 ≤ x11_2) = true := decide_eq_true c33
                              clear c33
                              obtain ⟨ji34, hji34⟩ : ∃ j_ : Int, (wrap64 (a2 + 1)) = j_ := ⟨_, rfl⟩
                              try clear hji9w
                              try clear hji9
                              replace H : (if 0 ≤ (ji34) then (if (ji34 : Int).toNat ≤ 35184372088832 then (if 0 ≤ x11_2 then (if x11_2 < (x8_2.length : Int) then ((some (x8_2.set (x11_2 : Int).toNat (List.replicate (ji34 : Int).toNat 0) : List (List Int))).bind fun y166 => (impl_ChangeFrom.l2 k2 l0 l1 a2 y166 x11_2 ((rd_L2 y166 x11_2).length : Int) 0)) else (none)) else (none)) else (none)) else (none)) = some (r1, r2) := by first | (rw [hji34] at H; exact H) | (simp only [hji34] at H ⊢; exact H)
                              have hji34w : (IntKind.i64.wrap (a2 + 1)) = ji34 := (i64_w _).trans hji34
                              by_cases c35 : 0 ≤ (ji34)
                              · rw [if_pos c35] at H
                                have c35b0 := eq_true c35
                                have c35b1 : decide (0 ≤ (ji34)) = true := decide_eq_true c35
                                clear c35
                                by_cases c36 : (ji34 : Int).toNat ≤ 35184372088832
                                · rw [if_pos c36] at H
                                  have c36b0 := eq_true c36
                                  have c36b1 : decide ((ji34 : Int).toNat ≤ 35184372088832) = true := decide_eq_true c36
                                  clear c36
                                  obtain ⟨y163, hy163⟩ : ∃ y_ : List Int, y_ = (List.replicate (ji34 : Int).toNat 0) := ⟨_, rfl⟩
                                  replace H : (if 0 ≤ x11_2 then (if x11_2 < (x8_2.length : Int) then ((some (x8_2.set (x11_2 : Int).toNat y163 : List (List Int))).bind fun y166 => (impl_ChangeFrom.l2 k2 l0 l1 a2 y166 x11_2 ((rd_L2 y166 x11_2).length : Int) 0)) else (none)) else (none)) = some (r1, r2) := by first | (rw [hy163]; with_reducible exact H) | (have H2_ := (Option.bind_some _ _).symm.trans H; rw [hy163]; with_reducible exact H2_) | (have H2_ := (Option.bind_some _ _).symm.trans H; with_reducible exact H2_) | with_reducible exact H | (rw [hy163]; exact H) | exact H
                                  have Ny163 := Aside0.mk hy163
                                  clear hy163
                                  by_cases c37 : 0 ≤ x11_2
                                  · rw [if_pos c37] at H
                                    have c37b0 : decide (0 ≤ x11_2) = true := decide_eq_true c37
                                    clear c37
                                    by_cases c38 : x11_2 < (x8_2.length : Int)
                                    · rw [if_pos c38] at H
                                      have c38b0 : decide (x11_2 < (x8_2.length : Int)) = true := decide_eq_true c38
                                      have c38b0x := c38b0
                                      (try simp only [hl9_1, hl8_2] at c38b0x)
                                      clear c38
                                      obtain ⟨y166, hy166⟩ : ∃ y_ : List (List Int), y_ = (x8_2.set (x11_2 : Int).toNat y163) := ⟨_, rfl⟩
                                      replace H : (impl_ChangeFrom.l2 k2 l0 l1 a2 y166 x11_2 ((rd_L2 y166 x11_2).length : Int) 0) = some (r1, r2) := by first | (rw [hy166]; with_reducible exact H) | (have H2_ := (Option.bind_some _ _).symm.trans H; rw [hy166]; with_reducible exact H2_) | (have H2_ := (Option.bind_some _ _).symm.trans H; with_reducible exact H2_) | with_reducible exact H | (rw [hy166]; exact H) | exact H
                                      have Ny166 := Aside0.mk hy166
                                      clear hy166
                                      have H' := Aside0.mk H
                                      clear H
                                      go_wp2_with (first | ((with_reducible refine gate_dst (N := 56) rfl ?_); refine Kd.R_make (Kd.int .i64) _ 3 rfl (N := 56) rfl 22 _ _ rfl ji34 rfl rfl Try.underlying22 (.int .i64 0) 8 info3 rfl (by decide) (by omega) 0 (ok := fun _ => True) (okp := fun _ => True) rfl (fun _ hk => hk) trivial (of_decide_eq_true (by first | (with_reducible assumption) | assumption)) (Nat.le_trans (Nat.mul_le_mul_right _ (of_decide_eq_true (by first | (with_reducible assumption) | assumption) : ji34.toNat ≤ 35184372088832)) (by omega)) (Below.refl _ _) (Nat.le_refl _) ?_; intro v164 w40 ho41 hb hg_ hnew_; clear hg_ hnew_; (first | rw [← Ny163.out] at ho41 | (simp only [Int.reduceToNat] at ho41; rw [← Ny163.out] at ho41)); have n0_ := Aside0.mk (Kd.S_elder' (by (with_reducible repeat (first | apply Kd.S_alloc | apply Kd.S_drewN | apply Kd.S_drew)); exact HO_8.out) (Kd.R_base ho41) hb); have n1_ := Aside0.mk (Kd.R_lower ho41 (below_size (by repeat (first | (with_reducible first | exact HB.out | apply below_alloc | apply pw_below_drewN | apply below_drew1) | exact HB.out)))); have n2_ := Aside0.mk (below_step (by repeat (first | (with_reducible first | exact HB.out | apply below_alloc | apply pw_below_drewN | apply below_drew1) | exact HB.out)) hb); clear HO_8; clear HB; have HO_8 := n0_; have HO165 := n1_; have HB := n2_; clear n0_ n1_ n2_; clear hb ho41; have p39 : 0 ≤ (x11_2 : Int) := of_decide_eq_true (by first | (with_reducible assumption) | assumption); have q39 : (x11_2 : Int) < ((x8_2.length : Int) : Int) := of_decide_eq_true (by first | (with_reducible assumption) | assumption); obtain ⟨_, ce39, hcl39, hM39, hcc39, hfr39, _, _⟩ := Kd.S_elem HO_8.out [] (x11_2 : Int) p39 q39; obtain ⟨ve39_0, rfl, ge39_0⟩ := hM39; have hx39_0 := hcc39 0 _ rfl; have hf39_0 := hfr39 0; (try simp only [show ((Kd.slice 3 (Kd.int .i64))).sz = 1 from rfl, Nat.mul_one, Nat.add_zero] at hx39_0); (try simp only [show ((Kd.slice 3 (Kd.int .i64))).sz = 1 from rfl, Nat.mul_one, Nat.add_zero] at hf39_0); (try clear hcl39); (try clear hcc39); (try clear hfr39); (try clear hM39); replace p39 := eq_true p39; replace q39 := eq_true q39; have n_ := Aside0.mk (Kd.S_mono (ok' := (fun k_ => some k_ ≠ (v164 : Value).ownBlock)) HO_8.out (fun k_ hk => hk.2)); clear HO_8; have HO_8 := n_; clear n_; have HX42 := Aside0.mk (show Kd.S (Kd.slice 3 (Kd.int .i64)) 22 w40 w.heap.size (fun k_ => ((fun _ => True)) k_ ∧ ¬ ((fun k_ => some k_ = (v164 : Value).ownBlock)) k_) (.slice (some ⟨go28, 0, none⟩) x8_2.length co28) x8_2 from (by (with_reducible repeat (first | apply Kd.S_alloc | apply Kd.S_drewN | apply Kd.S_drew)); exact Kd.S_mono HO_8.out (fun k_ hk => ⟨trivial, fun e_ => hk e_⟩))); obtain ⟨oki42, ce42, hcl42, hM42, hcc42, hfr42, hoki42, hH42⟩ := Kd.S_elem HX42.out [] (x11_2 : Int) (of_decide_eq_true (by first | (with_reducible assumption) | assumption)) (by have h_ : (x11_2 : Int) < ((x8_2.length : Int) : Int) := of_decide_eq_true (by first | (with_reducible assumption) | assumption); first | exact h_ | (have e_ := (Kd.S_reads' HO_8.out).1; omega) | simpa using h_); obtain ⟨ve42_0, rfl, ge42_0⟩ := hM42; have HP42 := Kd.S_seg hH42 (of_decide_eq_true (by first | (with_reducible assumption) | assumption)) (by have h_ : (x11_2 : Int) < ((x8_2.length : Int) : Int) := of_decide_eq_true (by first | (with_reducible assumption) | assumption); first | exact h_ | (have e_ := (Kd.S_reads' HO_8.out).1; omega) | simpa using h_) (seg := [v164]) (j := 0) (show 1 ≤ 1 from by decide) (x' := y163) (Kd.M_row (Kd.R_mono (Kd.R_tight rfl (Kd.R_mono (ok' := fun k_ => ((fun _ => True)) k_ ∧ k_ ≠ go28) (Kd.R_apart' (HO165.out) (Kd.S_typed HO_8.out) (by decide)) (fun k_ hk => ⟨trivial, fun e_ => (hk.2) (by rw [e_]; rfl)⟩))) (fun _ h_ => Or.inr (h_)))) (fun _ hk => hk) (fun k_ hk_ => ((Kd.R_mono (ok' := fun k_ => ((fun _ => True)) k_ ∧ k_ ≠ go28) (Kd.R_apart' (HO165.out) (Kd.S_typed HO_8.out) (by decide)) (fun k_ hk => ⟨trivial, fun e_ => (hk.2) (by rw [e_]; rfl)⟩))).1 k_ hk_.symm); have hx42_0 := hcc42 0 _ rfl; (try simp only [show ((Kd.slice 3 (Kd.int .i64))).sz = 1 from rfl, Nat.mul_one, Nat.add_zero] at hx42_0); have hf42_0 := hfr42 0; (try simp only [show ((Kd.slice 3 (Kd.int .i64))).sz = 1 from rfl, Nat.mul_one, Nat.add_zero] at hf42_0); (try clear hcl42); (try clear hcc42); (try clear hfr42); (try clear hM42); (try clear hoki42); (try clear hH42); (try simp only [show ((Kd.slice 3 (Kd.int .i64))).sz = 1 from rfl, Nat.mul_one, Nat.add_zero] at HP42)) | ((with_reducible refine gate_store (t := 22) (p := 57) rfl ?_); refine store_event (t := 22) (p := 57) (v := ?vo_w43) (w1 := (w40.setCell ⟨go28, (x11_2 : Int).toNat, none⟩ (v164))) ?hg ?ho ?hn ?hr ?_; (case ho => rfl); (case hg => rfl); (case hn => rfl); (case hr => first | (go_simp; done) | (go_simp; rfl) | (obtain ⟨Ax_, cx_, ex_⟩ := Kd.R_slice HO165.out; simp only [ex_]; first | (go_simp; done) | (go_simp; rfl))); intro w43 hw; have hg : w40.grownBy w43 (some go28) := (by rw [hw]; exact HP42.2); have hp_ : Kd.S (Kd.slice 3 (Kd.int .i64)) 22 w43 w.heap.size (fun _ => True) (.slice (some ⟨go28, 0, none⟩) x8_2.length co28) y166 := (by rw [hw, Ny166.out]; exact HP42.1); clear HP42; have n0_ := Aside0.mk (hp_); have n1_ := Aside0.mk ((by rw [hw]; exact below_set (HB.out) GB28.out : Below w.heap.size w w43)); clear HO_8; clear HB; clear HO165; have HO_8 := n0_; have HB := n1_; clear n0_ n1_; clear hg hw hp_; have p167 : 0 ≤ (x11_2 : Int) := of_decide_eq_true (by first | (with_reducible assumption) | assumption); have q167 : x11_2 < (y166.length : Int) := (by have h_ : (x11_2 : Int) < ((x8_2.length : Int) : Int) := of_decide_eq_true (by first | (with_reducible assumption) | assumption); first | (have e_ := (Kd.S_reads' HO_8.out).1; omega) | simpa only [Ny166.out, List.length_set] using h_); have ql167 : ((x11_2 : Int) < ((x8_2.length : Int) : Int)) = True := eq_true (of_decide_eq_true (by first | (with_reducible assumption) | assumption)); obtain ⟨ad167, A167_0, c167_0, e167, hx167_0, hl167_0, hi167_0⟩ := at_L2 (Kd.S_reads' HO_8.out).2.2 x11_2 p167 q167; obtain rfl : (⟨go28, 0, none⟩ : Addr) = ad167 := (by injection e167); obtain ⟨ce167, hce167, hMe167, hcc167⟩ := Kd.S_get HO_8.out [] x11_2 p167 (by first | exact q167 | exact of_decide_eq_true (by first | (with_reducible assumption) | assumption) | (have e_ := (Kd.S_reads' HO_8.out).1; omega)); obtain ⟨ve167_0, rfl, ge167_0⟩ := hMe167; have hv167_0 := hcc167 0 _ rfl; rw [Nat.add_zero, show ((Kd.slice 3 (Kd.int .i64))).sz = 1 from rfl, Nat.mul_one] at hv167_0; replace hv167_0 := Option.some.inj (hv167_0.symm.trans hx167_0); rw [hv167_0] at ge167_0; have HL167_0 := Aside0.mk (show Kd.R (Kd.int .i64) 3 _ _ _ _ (rd_L2 y166 x11_2) from ge167_0); clear hv167_0 ge167_0; have HX167_0 := Aside0.mk hx167_0; clear hcc167 hce167; (first | simp only [add_plain] at hx167_0 | simp only [add_at] at hx167_0 | simp only [Addr.add, Nat.zero_add] at hx167_0 | skip); have HR167_0 := Aside0.mk hi167_0; have HC167_0 := Aside0.mk hl167_0; clear hi167_0 hl167_0; replace p167 := eq_true p167; replace q167 := eq_true q167))
                                      go_loopg [63] k2 (fun kq v63 w' => ∃ (x8_3 : List (List Int)) (x63_3 : Int), v63 = .int .i64 x63_3 ∧ Aside0 (impl_ChangeFrom.l2 kq l0 l1 a2 x8_3 x11_2 ((rd_L2 y166 x11_2).length : Int) x63_3 = some (r1, r2)) ∧ Aside0 (kq ≤ k2) ∧ Aside0 (Kd.S (Kd.slice 3 (Kd.int .i64)) 22 w' w.heap.size (fun _ => True) (.slice (some ⟨go28, 0, none⟩) x8_2.length co28) x8_3) ∧ Aside0 (Below w.heap.size w w'))
                                      case atStart => exact ⟨(y166), (0), (by first | rfl | (simp; done) | (simp [*]; done)), H', ⟨Nat.le_refl _⟩, ⟨by (try simp only [hl9_1]); (try simp only [hl8_2]); (with_reducible repeat (first | apply Kd.S_alloc | apply Kd.S_drewN | apply Kd.S_drew)); exact HO_8.out⟩, ⟨by repeat (first | (with_reducible first | exact HB.out | apply below_alloc | apply pw_below_drewN | apply below_drew1) | exact HB.out)⟩⟩
                                      case round =>
                                        clear H'
                                        try clear c1
                                        try clear p1
                                        try clear q1
                                        try clear hx1
                                        try clear c2
                                        try clear p2
                                        try clear q2
                                        try clear hx2
                                        try clear qi2
                                        try clear c3
                                        try clear p3
                                        try clear q3
                                        try clear hx3
                                        try clear hf3
                                        try clear c4
                                        try clear hx4
                                        try clear hf4
                                        try clear c5
                                        try clear p6
                                        try clear c7
                                        try clear c7b0
                                        try clear c7b1
                                        try clear c8
                                        try clear c8b0
                                        try clear c8b1
                                        try clear c10
                                        try clear c10b0
                                        try clear c10b1
                                        try clear c11
                                        try clear c11b0
                                        try clear c11b1
                                        try clear c16
                                        try clear p16
                                        try clear q16
                                        try clear hx16
                                        try clear c18
                                        try clear c18b0
                                        try clear c19
                                        try clear c19b0
                                        try clear c20
                                        try clear c20b0
                                        try clear p21
                                        try clear q21
                                        try clear hx21
                                        try clear hf21
                                        try clear c24
                                        try clear c24b0
                                        try clear c24b1
                                        try clear p25
                                        try clear q25
                                        try clear hx25
                                        try clear qi25
                                        try clear hf25
                                        try clear c26
                                        try clear c26b0
                                        try clear c26b1
                                        try clear c27
                                        try clear c27b0
                                        try clear c27b1
                                        try clear c28
                                        try clear p28
                                        try clear q28
                                        try clear hx28
                                        try clear hf28
                                        try clear c31
                                        try clear hx31
                                        try clear hf31
                                        try clear c33
                                        try clear c33b0
                                        try clear c35
                                        try clear c35b0
                                        try clear c35b1
                                        try clear c36
                                        try clear c36b0
                                        try clear c36b1
                                        try clear c37
                                        try clear c37b0
                                        try clear c38
                                        try clear c38b0
                                        try clear c39
                                        try clear p39
                                        try clear q39
                                        try clear hx39
                                        try clear hf39
                                        try clear c42
                                        try clear hx42
                                        try clear hf42
                                        try clear hx167_0
                                        try clear hx21_0
                                        try clear hx25_0
                                        try clear hx28_0
                                        try clear hx31_0
                                        try clear hx39_0
                                        try clear hx42_0
                                        try clear p167
                                        try clear p2
                                        try clear p21
                                        try clear p25
                                        try clear p28
                                        try clear p39
                                        try clear p6
                                        try clear q167
                                        try clear q2
                                        try clear q21
                                        try clear q25
                                        try clear q28
                                        try clear q39
                                        obtain ⟨x8_3, x63_3, rfl, HA, HK3, HO_8, HB⟩ := hrel
                                        have hl8_3 := (Kd.S_reads' HO_8.out).1
                                        rw [hl8_3] at HO_8
                                        (try simp only [hl8_3])
                                        cases gk with
                                        | zero => exact absurd HA.out (by simp [impl_ChangeFrom.l2])
                                        | succ k3 =>
                                          have H := HA.out
                                          clear HA
                                          simp only [impl_ChangeFrom.l2] at H
                                          by_cases c44 : x63_3 < ((rd_L2 y166 x11_2).length : Int)
                                          · rw [if_pos c44] at H
                                            have c44b0 : decide (x63_3 < ((rd_L2 y166 x11_2).length : Int)) = true := decide_eq_true c44
                                            clear c44
                                            obtain ⟨ji45, hji45⟩ : ∃ j_ : Int, (wrap64 (x11_2 + 1)) = j_ := ⟨_, rfl⟩
                                            replace H : (if 0 ≤ (ji45) then (if (ji45) < (x8_3.length : Int) then (if 0 ≤ x63_3 then (if x63_3 < ((rd_L2 x8_3 (ji45)).length : Int) then (if (rd (rd_L2 x8_3 (ji45)) x63_3) < 1001 then (if 0 ≤ x11_2 then (if x11_2 < (x8_3.length : Int) then (if x63_3 < ((rd_L2 x8_3 x11_2).length : Int) then (impl_ChangeFrom.l2 k3 l0 l1 a2 (x8_3.set (x11_2 : Int).toNat ((rd_L2 x8_3 x11_2).set (x63_3 : Int).toNat 0)) x11_2 ((rd_L2 y166 x11_2).length : Int) (wrap64 (x63_3 + 1))) else (none)) else (none)) else (none)) else (if 0 ≤ x11_2 then (if x11_2 < (l0.length : Int) then (if x63_3 ≥ (rd l0 x11_2) then (if x11_2 < (x8_3.length : Int) then (if 0 ≤ (wrap64 (x63_3 - (rd l0 x11_2))) then (if (wrap64 (x63_3 - (rd l0 x11_2))) < ((rd_L2 x8_3 x11_2).length : Int) then (if x11_2 < (l1.length : Int) then (if (rd (rd_L2 x8_3 x11_2) (wrap64 (x63_3 - (rd l0 x11_2)))) < (rd l1 x11_2) then (if x63_3 < ((rd_L2 x8_3 x11_2).length : Int) then (impl_ChangeFrom.l2 k3 l0 l1 a2 (x8_3.set (x11_2 : Int).toNat ((rd_L2 x8_3 x11_2).set (x63_3 : Int).toNat (wrap64 ((rd (rd_L2 x8_3 x11_2) (wrap64 (x63_3 - (rd l0 x11_2)))) + 1)))) x11_2 ((rd_L2 y166 x11_2).length : Int) (wrap64 (x63_3 + 1))) else (none)) else (if x63_3 < ((rd_L2 x8_3 x11_2).length : Int) then (impl_ChangeFrom.l2 k3 l0 l1 a2 (x8_3.set (x11_2 : Int).toNat ((rd_L2 x8_3 x11_2).set (x63_3 : Int).toNat 1001)) x11_2 ((rd_L2 y166 x11_2).length : Int) (wrap64 (x63_3 + 1))) else (none))) else (none)) else (none)) else (none)) else (none)) else (if x11_2 < (x8_3.length : Int) then (if x63_3 < ((rd_L2 x8_3 x11_2).length : Int) then (impl_ChangeFrom.l2 k3 l0 l1 a2 (x8_3.set (x11_2 : Int).toNat ((rd_L2 x8_3 x11_2).set (x63_3 : Int).toNat 1001)) x11_2 ((rd_L2 y166 x11_2).length : Int) (wrap64 (x63_3 + 1))) else (none)) else (none))) else (none)) else (none))) else (none)) else (none)) else (none)) else (none)) = some (r1, r2) := by first | (rw [hji45] at H; exact H) | (simp only [hji45] at H ⊢; exact H)
                                            have hji45w : (IntKind.i64.wrap (x11_2 + 1)) = ji45 := (i64_w _).trans hji45
                                            by_cases c46 : 0 ≤ (ji45)
                                            · rw [if_pos c46] at H
                                              have c46b0 : decide (0 ≤ (ji45)) = true := decide_eq_true c46
                                              clear c46
                                              by_cases c47 : (ji45) < (x8_3.length : Int)
                                              · rw [if_pos c47] at H
                                                have c47b0 : decide ((ji45) < (x8_3.length : Int)) = true := decide_eq_true c47
                                                have c47b0x := c47b0
                                                (try simp only [hl9_1, hl8_2, hl8_3] at c47b0x)
                                                clear c47
                                                by_cases c48 : 0 ≤ x63_3
                                                · rw [if_pos c48] at H
                                                  have c48b0 : decide (0 ≤ x63_3) = true := decide_eq_true c48
                                                  clear c48
                                                  by_cases c49 : x63_3 < ((rd_L2 x8_3 (ji45)).length : Int)
                                                  · rw [if_pos c49] at H
                                                    have c49b0 : decide (x63_3 < ((rd_L2 x8_3 (ji45)).length : Int)) = true := decide_eq_true c49
                                                    clear c49
                                                    by_cases c50 : (rd (rd_L2 x8_3 (ji45)) x63_3) < 1001
                                                    · rw [if_pos c50] at H
                                                      have c50b0 : decide ((rd (rd_L2 x8_3 (ji45)) x63_3) < 1001) = true := decide_eq_true c50
                                                      clear c50
                                                      by_cases c51 : 0 ≤ x11_2
                                                      · rw [if_pos c51] at H
                                                        have c51b0 : decide (0 ≤ x11_2) = true := decide_eq_true c51
                                                        clear c51
                                                        by_cases c52 : x11_2 < (x8_3.length : Int)
                                                        · rw [if_pos c52] at H
                                                          have c52b0 : decide (x11_2 < (x8_3.length : Int)) = true := decide_eq_true c52
                                                          have c52b0x := c52b0
                                                          (try simp only [hl9_1, hl8_2, hl8_3] at c52b0x)
                                                          clear c52
                                                          by_cases c53 : x63_3 < ((rd_L2 x8_3 x11_2).length : Int)
                                                          · rw [if_pos c53] at H
                                                            have c53b0 : decide (x63_3 < ((rd_L2 x8_3 x11_2).length : Int)) = true := decide_eq_true c53
                                                            clear c53
                                                            obtain ⟨y171, hy171⟩ : ∃ y_ : List Int, y_ = ((rd_L2 x8_3 x11_2).set (x63_3 : Int).toNat 0) := ⟨_, rfl⟩
                                                            replace H : (impl_ChangeFrom.l2 k3 l0 l1 a2 (x8_3.set (x11_2 : Int).toNat y171) x11_2 ((rd_L2 y166 x11_2).length : Int) (wrap64 (x63_3 + 1))) = some (r1, r2) := by first | (rw [hy171]; with_reducible exact H) | (have H2_ := (Option.bind_some _ _).symm.trans H; rw [hy171]; with_reducible exact H2_) | (have H2_ := (Option.bind_some _ _).symm.trans H; with_reducible exact H2_) | with_reducible exact H | (rw [hy171]; exact H) | exact H
                                                            have Ny171 := Aside0.mk hy171
                                                            clear hy171
                                                            obtain ⟨y173, hy173⟩ : ∃ y_ : List (List Int), y_ = (x8_3.set (x11_2 : Int).toNat y171) := ⟨_, rfl⟩
                                                            replace H : (impl_ChangeFrom.l2 k3 l0 l1 a2 y173 x11_2 ((rd_L2 y166 x11_2).length : Int) (wrap64 (x63_3 + 1))) = some (r1, r2) := by first | (rw [hy173]; with_reducible exact H) | (have H2_ := (Option.bind_some _ _).symm.trans H; rw [hy173]; with_reducible exact H2_) | (have H2_ := (Option.bind_some _ _).symm.trans H; with_reducible exact H2_) | with_reducible exact H | (rw [hy173]; exact H) | exact H
                                                            have Ny173 := Aside0.mk hy173
                                                            clear hy173
                                                            have H' := Aside0.mk H
                                                            clear H
                                                            have p168 : 0 ≤ ((ji45) : Int) := of_decide_eq_true (by first | (with_reducible assumption) | assumption)
                                                            have q168 : (ji45) < (x8_3.length : Int) := of_decide_eq_true (by first | (with_reducible assumption) | assumption)
                                                            obtain ⟨ad168, A168_0, c168_0, e168, hx168_0, hl168_0, hi168_0⟩ := at_L2 (Kd.S_reads' HO_8.out).2.2 (ji45) p168 q168
                                                            obtain rfl : (⟨go28, 0, none⟩ : Addr) = ad168 := (by injection e168)
                                                            obtain ⟨ce168, hce168, hMe168, hcc168⟩ := Kd.S_get HO_8.out [] (ji45) p168 (by first | exact q168 | exact of_decide_eq_true (by first | (with_reducible assumption) | assumption) | (have e_ := (Kd.S_reads' HO_8.out).1; omega))
                                                            obtain ⟨ve168_0, rfl, ge168_0⟩ := hMe168
                                                            have hv168_0 := hcc168 0 _ rfl
                                                            rw [Nat.add_zero, show ((Kd.slice 3 (Kd.int .i64))).sz = 1 from rfl, Nat.mul_one] at hv168_0
                                                            replace hv168_0 := Option.some.inj (hv168_0.symm.trans hx168_0)
                                                            rw [hv168_0] at ge168_0
                                                            have HL168_0 := Aside0.mk (show Kd.R (Kd.int .i64) 3 _ _ _ _ (rd_L2 x8_3 (ji45)) from ge168_0)
                                                            clear hv168_0 ge168_0
                                                            have HX168_0 := Aside0.mk hx168_0
                                                            clear hcc168 hce168
                                                            (first | simp only [add_plain] at hx168_0 | simp only [add_at] at hx168_0 | simp only [Addr.add, Nat.zero_add] at hx168_0 | skip)
                                                            have HR168_0 := Aside0.mk hi168_0
                                                            have HC168_0 := Aside0.mk hl168_0
                                                            clear hi168_0 hl168_0
                                                            replace p168 := eq_true p168
                                                            replace q168 := eq_true q168
                                                            have p169 : 0 ≤ (x63_3 : Int) := of_decide_eq_true (by first | (with_reducible assumption) | assumption)
                                                            have q169 : x63_3 < ((rd_L2 x8_3 (ji45)).length : Int) := of_decide_eq_true (by first | (with_reducible assumption) | assumption)
                                                            obtain ⟨ad169, e169, hx169_0⟩ := Kd.at_int (by repeat (first | (with_reducible exact HR168_0.out) | (with_reducible refine Kd.C_alloc ?_ _) | (with_reducible refine Kd.C_drewN ?_ _) | (with_reducible refine Kd.C_drew ?_) | exact HR168_0.out)) x63_3 p169 q169
                                                            cases e169
                                                            replace p169 := eq_true p169
                                                            replace q169 := eq_true q169
                                                            have p170 : 0 ≤ (x11_2 : Int) := of_decide_eq_true (by first | (with_reducible assumption) | assumption)
                                                            have q170 : x11_2 < (x8_3.length : Int) := of_decide_eq_true (by first | (with_reducible assumption) | assumption)
                                                            obtain ⟨ad170, A170_0, c170_0, e170, hx170_0, hl170_0, hi170_0⟩ := at_L2 (Kd.S_reads' HO_8.out).2.2 x11_2 p170 q170
                                                            obtain rfl : (⟨go28, 0, none⟩ : Addr) = ad170 := (by injection e170)
                                                            obtain ⟨ce170, hce170, hMe170, hcc170⟩ := Kd.S_get HO_8.out [] x11_2 p170 (by first | exact q170 | exact of_decide_eq_true (by first | (with_reducible assumption) | assumption) | (have e_ := (Kd.S_reads' HO_8.out).1; omega))
                                                            obtain ⟨ve170_0, rfl, ge170_0⟩ := hMe170
                                                            have hv170_0 := hcc170 0 _ rfl
                                                            rw [Nat.add_zero, show ((Kd.slice 3 (Kd.int .i64))).sz = 1 from rfl, Nat.mul_one] at hv170_0
                                                            replace hv170_0 := Option.some.inj (hv170_0.symm.trans hx170_0)
                                                            rw [hv170_0] at ge170_0
                                                            have HL170_0 := Aside0.mk (show Kd.R (Kd.int .i64) 3 _ _ _ _ (rd_L2 x8_3 x11_2) from ge170_0)
                                                            clear hv170_0 ge170_0
                                                            have HX170_0 := Aside0.mk hx170_0
                                                            clear hcc170 hce170
                                                            (first | simp only [add_plain] at hx170_0 | simp only [add_at] at hx170_0 | simp only [Addr.add, Nat.zero_add] at hx170_0 | skip)
                                                            have HR170_0 := Aside0.mk hi170_0
                                                            have HC170_0 := Aside0.mk hl170_0
                                                            clear hi170_0 hl170_0
                                                            replace p170 := eq_true p170
                                                            replace q170 := eq_true q170
                                                            have p54 : 0 ≤ (x63_3 : Int) := of_decide_eq_true (by first | (with_reducible assumption) | assumption)
                                                            have q54 : (x63_3 : Int) < (((rd_L2 x8_3 x11_2).length : Int) : Int) := of_decide_eq_true (by first | (with_reducible assumption) | assumption)
                                                            obtain ⟨go54, co54, eo54, gb54, gl54, cl54, HG54⟩ := Kd.R_form HL170_0.out (by omega)
                                                            (first | cases eo54 | (injection eo54 with ea_ en_ ec_; (first | subst ea_ | (injection ea_ with ea_; subst ea_)); subst ec_; clear en_))
                                                            have GB54 := Aside0.mk gb54
                                                            have GG54 := Aside0.mk HG54
                                                            clear gb54 gl54 HG54
                                                            obtain ⟨hx54_0, hf54_0⟩ := Kd.R_celln 0 HL170_0.out (x63_3 : Int) p54 q54
                                                            replace p54 := eq_true p54
                                                            replace q54 := eq_true q54
                                                            have hq55 : (x11_2 : Int) < (x8_3.length : Int) := (by have h_ : (x11_2 : Int) < ((x8_3.length : Int) : Int) := of_decide_eq_true (by first | (with_reducible assumption) | assumption); first | exact h_ | (have e_ := (Kd.S_reads' HO_8.out).1; omega) | simpa only [List.length_set, List.length_set] using h_)
                                                            obtain ⟨oki55, ce55, hcl55, hM55, hcc55, hok55, hbk55⟩ := Kd.S_borrow HO_8.out [] (x11_2 : Int) (of_decide_eq_true (by first | (with_reducible assumption) | assumption)) hq55
                                                            obtain ⟨ve55_0, rfl, ge55_0⟩ := hM55
                                                            have hv55 := hcc55 0 _ rfl
                                                            rw [Nat.add_zero, show ((Kd.slice 3 (Kd.int .i64))).sz = 1 from rfl, Nat.mul_one] at hv55
                                                            replace hv55 := Option.some.inj (hv55.symm.trans HX170_0.out)
                                                            subst hv55
                                                            (try clear hcc55); (try clear hcl55)
                                                            replace ge55_0 := (show Kd.R (Kd.int .i64) 3 _ _ _ _ (rd_L2 x8_3 x11_2) from ge55_0)
                                                            have HP55 := Kd.R_putg ge55_0 (x63_3 : Int) 0
                                                            go_wp2_with (first | ((with_reducible refine gate_store (t := 3) (p := 87) rfl ?_); refine store_event (t := 3) (p := 87) (v := ?vo_w56) (w1 := (wr.setCell ⟨go54, (x63_3 : Int).toNat, none⟩ (.int .i64 0))) ?hg ?ho ?hn ?hr ?_; (case ho => rfl); (case hg => rfl); (case hn => rfl); (case hr => first | (go_simp; done) | (go_simp; rfl)); intro w56 hw; have hg : wr.grownBy w56 (some go54) := (by rw [hw]; exact HP55.2); have hz_ : Kd.R (Kd.int .i64) 3 w56 w.heap.size oki55 (.slice (some ⟨go54, 0, none⟩) (rd_L2 x8_3 x11_2).length c170_0) y171 := (by rw [hw, Ny171.out]; exact HP55.1); have hp_ : Kd.S (Kd.slice 3 (Kd.int .i64)) 22 w56 w.heap.size (fun _ => True) (.slice (some ⟨go28, 0, none⟩) x8_3.length co28) y173 := (by rw [Ny173.out]; exact hbk55 hg (fun k_ e_ => by injection e_ with e_; subst e_; exact ge55_0.1 _ rfl) (Kd.M_row hz_)); have hm_ := Kd.R_mono hz_ hok55; clear HP55 hbk55; have n0_ := Aside0.mk (hp_); have n1_ := Aside0.mk ((by rw [hw]; exact below_set (HB.out) GB54.out : Below w.heap.size w w56)); have n2_ := Aside0.mk (hm_); have n3_ := Aside0.mk ((Kd.R_reads' hm_).2.1); clear HO_8; clear HB; clear HL168_0; clear HL170_0; have HO_8 := n0_; have HB := n1_; have HL205 := n2_; have HC172 := n3_; clear n0_ n1_ n2_ n3_; clear hg hw hp_ hz_ hm_ hok55))
                                                            (try simp only [← hl8_3])
                                                            go_roundg k3
                                                            case measure => have := HK1.out; have := HK2.out; have := HK3.out; omega
                                                            case rel => exact ⟨(y173), (wrap64 (x63_3 + 1)), (by first | rfl | (simp; done) | (simp [*]; done)), H', ⟨by have := HK1.out; have := HK2.out; have := HK3.out; omega⟩, ⟨by (try simp only [hl9_1]); (try simp only [hl8_2]); (try simp only [hl8_3]); (with_reducible repeat (first | apply Kd.S_alloc | apply Kd.S_drewN | apply Kd.S_drew)); exact HO_8.out⟩, ⟨by repeat (first | (with_reducible first | exact HB.out | apply below_alloc | apply pw_below_drewN | apply below_drew1) | exact HB.out)⟩⟩
                                                          · rw [if_neg c53] at H
                                                            exact absurd H (by simp)
                                                        · rw [if_neg c52] at H
                                                          exact absurd H (by simp)
                                                      · rw [if_neg c51] at H
                                                        exact absurd H (by simp)
                                                    · rw [if_neg c50] at H
                                                      have c50b0 : decide ((rd (rd_L2 x8_3 (ji45)) x63_3) < 1001) = false := decide_eq_false c50
                                                      clear c50
                                                      by_cases c57 : 0 ≤ x11_2
                                                      · rw [if_pos c57] at H
                                                        have c57b0 : decide (0 ≤ x11_2) = true := decide_eq_true c57
                                                        clear c57
                                                        by_cases c58 : x11_2 < (l0.length : Int)
                                                        · rw [if_pos c58] at H
                                                          have c58b0 : decide (x11_2 < (l0.length : Int)) = true := decide_eq_true c58
                                                          clear c58
                                                          by_cases c59 : x63_3 ≥ (rd l0 x11_2)
                                                          · rw [if_pos c59] at H
                                                            have c59b0 : decide ((rd l0 x11_2) ≤ x63_3) = true := decide_eq_true c59
                                                            clear c59
                                                            by_cases c60 : x11_2 < (x8_3.length : Int)
                                                            · rw [if_pos c60] at H
                                                              have c60b0 : decide (x11_2 < (x8_3.length : Int)) = true := decide_eq_true c60
                                                              have c60b0x := c60b0
                                                              (try simp only [hl9_1, hl8_2, hl8_3] at c60b0x)
                                                              clear c60
                                                              obtain ⟨ji61, hji61⟩ : ∃ j_ : Int, (wrap64 (x63_3 - (rd l0 x11_2))) = j_ := ⟨_, rfl⟩
                                                              replace H : (if 0 ≤ (ji61) then (if (ji61) < ((rd_L2 x8_3 x11_2).length : Int) then (if x11_2 < (l1.length : Int) then (if (rd (rd_L2 x8_3 x11_2) (ji61)) < (rd l1 x11_2) then (if x63_3 < ((rd_L2 x8_3 x11_2).length : Int) then (impl_ChangeFrom.l2 k3 l0 l1 a2 (x8_3.set (x11_2 : Int).toNat ((rd_L2 x8_3 x11_2).set (x63_3 : Int).toNat (wrap64 ((rd (rd_L2 x8_3 x11_2) (ji61)) + 1)))) x11_2 ((rd_L2 y166 x11_2).length : Int) (wrap64 (x63_3 + 1))) else (none)) else (if x63_3 < ((rd_L2 x8_3 x11_2).length : Int) then (impl_ChangeFrom.l2 k3 l0 l1 a2 (x8_3.set (x11_2 : Int).toNat ((rd_L2 x8_3 x11_2).set (x63_3 : Int).toNat 1001)) x11_2 ((rd_L2 y166 x11_2).length : Int) (wrap64 (x63_3 + 1))) else (none))) else (none)) else (none)) else (none)) = some (r1, r2) := by first | (rw [hji61] at H; exact H) | (simp only [hji61] at H ⊢; exact H)
                                                              have hji61w : (IntKind.i64.wrap (x63_3 - (rd l0 x11_2))) = ji61 := (i64_w _).trans hji61
                                                              by_cases c62 : 0 ≤ (ji61)
                                                              · rw [if_pos c62] at H
                                                                have c62b0 : decide (0 ≤ (ji61)) = true := decide_eq_true c62
                                                                clear c62
                                                                by_cases c63 : (ji61) < ((rd_L2 x8_3 x11_2).length : Int)
                                                                · rw [if_pos c63] at H
                                                                  have c63b0 : decide ((ji61) < ((rd_L2 x8_3 x11_2).length : Int)) = true := decide_eq_true c63
                                                                  clear c63
                                                                  by_cases c64 : x11_2 < (l1.length : Int)
                                                                  · rw [if_pos c64] at H
                                                                    have c64b0 : decide (x11_2 < (l1.length : Int)) = true := decide_eq_true c64
                                                                    clear c64
                                                                    by_cases c65 : (rd (rd_L2 x8_3 x11_2) (ji61)) < (rd l1 x11_2)
                                                                    · rw [if_pos c65] at H
                                                                      have c65b0 : decide ((rd (rd_L2 x8_3 x11_2) (ji61)) < (rd l1 x11_2)) = true := decide_eq_true c65
                                                                      clear c65
                                                                      by_cases c66 : x63_3 < ((rd_L2 x8_3 x11_2).length : Int)
                                                                      · rw [if_pos c66] at H
                                                                        have c66b0 : decide (x63_3 < ((rd_L2 x8_3 x11_2).length : Int)) = true := decide_eq_true c66
                                                                        clear c66
                                                                        obtain ⟨y183, hy183⟩ : ∃ y_ : List Int, y_ = ((rd_L2 x8_3 x11_2).set (x63_3 : Int).toNat (wrap64 ((rd (rd_L2 x8_3 x11_2) (ji61)) + 1))) := ⟨_, rfl⟩
                                                                        replace H : (impl_ChangeFrom.l2 k3 l0 l1 a2 (x8_3.set (x11_2 : Int).toNat y183) x11_2 ((rd_L2 y166 x11_2).length : Int) (wrap64 (x63_3 + 1))) = some (r1, r2) := by first | (rw [hy183]; with_reducible exact H) | (have H2_ := (Option.bind_some _ _).symm.trans H; rw [hy183]; with_reducible exact H2_) | (have H2_ := (Option.bind_some _ _).symm.trans H; with_reducible exact H2_) | with_reducible exact H | (rw [hy183]; exact H) | exact H
                                                                        have Ny183 := Aside0.mk hy183
                                                                        clear hy183
                                                                        obtain ⟨y185, hy185⟩ : ∃ y_ : List (List Int), y_ = (x8_3.set (x11_2 : Int).toNat y183) := ⟨_, rfl⟩
                                                                        replace H : (impl_ChangeFrom.l2 k3 l0 l1 a2 y185 x11_2 ((rd_L2 y166 x11_2).length : Int) (wrap64 (x63_3 + 1))) = some (r1, r2) := by first | (rw [hy185]; with_reducible exact H) | (have H2_ := (Option.bind_some _ _).symm.trans H; rw [hy185]; with_reducible exact H2_) | (have H2_ := (Option.bind_some _ _).symm.trans H; with_reducible exact H2_) | with_reducible exact H | (rw [hy185]; exact H) | exact H
                                                                        have Ny185 := Aside0.mk hy185
                                                                        clear hy185
                                                                        have H' := Aside0.mk H
                                                                        clear H
                                                                        have p168 : 0 ≤ ((ji45) : Int) := of_decide_eq_true (by first | (with_reducible assumption) | assumption)
                                                                        have q168 : (ji45) < (x8_3.length : Int) := of_decide_eq_true (by first | (with_reducible assumption) | assumption)
                                                                        obtain ⟨ad168, A168_0, c168_0, e168, hx168_0, hl168_0, hi168_0⟩ := at_L2 (Kd.S_reads' HO_8.out).2.2 (ji45) p168 q168
                                                                        obtain rfl : (⟨go28, 0, none⟩ : Addr) = ad168 := (by injection e168)
                                                                        obtain ⟨ce168, hce168, hMe168, hcc168⟩ := Kd.S_get HO_8.out [] (ji45) p168 (by first | exact q168 | exact of_decide_eq_true (by first | (with_reducible assumption) | assumption) | (have e_ := (Kd.S_reads' HO_8.out).1; omega))
                                                                        obtain ⟨ve168_0, rfl, ge168_0⟩ := hMe168
                                                                        have hv168_0 := hcc168 0 _ rfl
                                                                        rw [Nat.add_zero, show ((Kd.slice 3 (Kd.int .i64))).sz = 1 from rfl, Nat.mul_one] at hv168_0
                                                                        replace hv168_0 := Option.some.inj (hv168_0.symm.trans hx168_0)
                                                                        rw [hv168_0] at ge168_0
                                                                        have HL168_0 := Aside0.mk (show Kd.R (Kd.int .i64) 3 _ _ _ _ (rd_L2 x8_3 (ji45)) from ge168_0)
                                                                        clear hv168_0 ge168_0
                                                                        have HX168_0 := Aside0.mk hx168_0
                                                                        clear hcc168 hce168
                                                                        (first | simp only [add_plain] at hx168_0 | simp only [add_at] at hx168_0 | simp only [Addr.add, Nat.zero_add] at hx168_0 | skip)
                                                                        have HR168_0 := Aside0.mk hi168_0
                                                                        have HC168_0 := Aside0.mk hl168_0
                                                                        clear hi168_0 hl168_0
                                                                        replace p168 := eq_true p168
                                                                        replace q168 := eq_true q168
                                                                        have p169 : 0 ≤ (x63_3 : Int) := of_decide_eq_true (by first | (with_reducible assumption) | assumption)
                                                                        have q169 : x63_3 < ((rd_L2 x8_3 (ji45)).length : Int) := of_decide_eq_true (by first | (with_reducible assumption) | assumption)
                                                                        obtain ⟨ad169, e169, hx169_0⟩ := Kd.at_int (by repeat (first | (with_reducible exact HR168_0.out) | (with_reducible refine Kd.C_alloc ?_ _) | (with_reducible refine Kd.C_drewN ?_ _) | (with_reducible refine Kd.C_drew ?_) | exact HR168_0.out)) x63_3 p169 q169
                                                                        cases e169
                                                                        replace p169 := eq_true p169
                                                                        replace q169 := eq_true q169
                                                                        try go_wp2
                                                                        have n0_ := Aside0.mk (Kd.S_drew HO_8.out)
                                                                        have n1_ := Aside0.mk (Kd.R_drew HL168_0.out)
                                                                        have n2_ := Aside0.mk (Kd.C_drew HR168_0.out)
                                                                        have n3_ := Aside0.mk (below_drew1 HB.out)
                                                                        clear HO_8
                                                                        clear HL168_0
                                                                        clear HR168_0
                                                                        clear HB
                                                                        have HO_8 := n0_
                                                                        have HL168_0 := n1_
                                                                        have HR168_0 := n2_
                                                                        have HB := n3_
                                                                        clear n0_ n1_ n2_ n3_
                                                                        have p174 : 0 ≤ (x11_2 : Int) := of_decide_eq_true (by first | (with_reducible assumption) | assumption)
                                                                        have q174 : x11_2 < (l0.length : Int) := of_decide_eq_true (by first | (with_reducible assumption) | assumption)
                                                                        obtain ⟨ad174, e174, hx174_0⟩ := Kd.at_int HR0.out x11_2 p174 q174
                                                                        have hw174_0 := hx174_0
                                                                        cases e174
                                                                        (try replace hx174_0 := (HB.out.cell (World.block_lt_of_cell? w _ hx174_0)).trans hx174_0)
                                                                        replace p174 := eq_true p174
                                                                        replace q174 := eq_true q174
                                                                        have p175 : 0 ≤ (x11_2 : Int) := of_decide_eq_true (by first | (with_reducible assumption) | assumption)
                                                                        have q175 : x11_2 < (x8_3.length : Int) := of_decide_eq_true (by first | (with_reducible assumption) | assumption)
                                                                        obtain ⟨ad175, A175_0, c175_0, e175, hx175_0, hl175_0, hi175_0⟩ := at_L2 (Kd.S_reads' HO_8.out).2.2 x11_2 p175 q175
                                                                        obtain rfl : (⟨go28, 0, none⟩ : Addr) = ad175 := (by injection e175)
                                                                        obtain ⟨ce175, hce175, hMe175, hcc175⟩ := Kd.S_get HO_8.out [] x11_2 p175 (by first | exact q175 | exact of_decide_eq_true (by first | (with_reducible assumption) | assumption) | (have e_ := (Kd.S_reads' HO_8.out).1; omega))
                                                                        obtain ⟨ve175_0, rfl, ge175_0⟩ := hMe175
                                                                        have hv175_0 := hcc175 0 _ rfl
                                                                        rw [Nat.add_zero, show ((Kd.slice 3 (Kd.int .i64))).sz = 1 from rfl, Nat.mul_one] at hv175_0
                                                                        replace hv175_0 := Option.some.inj (hv175_0.symm.trans hx175_0)
                                                                        rw [hv175_0] at ge175_0
                                                                        have HL175_0 := Aside0.mk (show Kd.R (Kd.int .i64) 3 _ _ _ _ (rd_L2 x8_3 x11_2) from ge175_0)
                                                                        clear hv175_0 ge175_0
                                                                        have HX175_0 := Aside0.mk hx175_0
                                                                        clear hcc175 hce175
                                                                        (first | simp only [add_plain] at hx175_0 | simp only [add_at] at hx175_0 | simp only [Addr.add, Nat.zero_add] at hx175_0 | skip)
                                                                        have HR175_0 := Aside0.mk hi175_0
                                                                        have HC175_0 := Aside0.mk hl175_0
                                                                        clear hi175_0 hl175_0
                                                                        replace p175 := eq_true p175
                                                                        replace q175 := eq_true q175
                                                                        have p176 : 0 ≤ (x11_2 : Int) := of_decide_eq_true (by first | (with_reducible assumption) | assumption)
                                                                        have q176 : x11_2 < (l0.length : Int) := of_decide_eq_true (by first | (with_reducible assumption) | assumption)
                                                                        obtain ⟨ad176, e176, hx176_0⟩ := Kd.at_int HR0.out x11_2 p176 q176
                                                                        have hw176_0 := hx176_0
                                                                        obtain rfl : ad174 = ad176 := (by injection e176)
                                                                        (try replace hx176_0 := (HB.out.cell (World.block_lt_of_cell? w _ hx176_0)).trans hx176_0)
                                                                        replace p176 := eq_true p176
                                                                        replace q176 := eq_true q176
                                                                        have p177 : 0 ≤ ((ji61) : Int) := of_decide_eq_true (by first | (with_reducible assumption) | assumption)
                                                                        have q177 : (ji61) < ((rd_L2 x8_3 x11_2).length : Int) := of_decide_eq_true (by first | (with_reducible assumption) | assumption)
                                                                        obtain ⟨ad177, e177, hx177_0⟩ := Kd.at_int (by repeat (first | (with_reducible exact HR175_0.out) | (with_reducible refine Kd.C_alloc ?_ _) | (with_reducible refine Kd.C_drewN ?_ _) | (with_reducible refine Kd.C_drew ?_) | exact HR175_0.out)) (ji61) p177 q177
                                                                        cases e177
                                                                        replace p177 := eq_true p177
                                                                        replace q177 := eq_true q177
                                                                        have p178 : 0 ≤ (x11_2 : Int) := of_decide_eq_true (by first | (with_reducible assumption) | assumption)
                                                                        have q178 : x11_2 < (l1.length : Int) := of_decide_eq_true (by first | (with_reducible assumption) | assumption)
                                                                        obtain ⟨ad178, e178, hx178_0⟩ := Kd.at_int HR1.out x11_2 p178 q178
                                                                        have hw178_0 := hx178_0
                                                                        cases e178
                                                                        (try replace hx178_0 := (HB.out.cell (World.block_lt_of_cell? w _ hx178_0)).trans hx178_0)
                                                                        replace p178 := eq_true p178
                                                                        replace q178 := eq_true q178
                                                                        refine start_ (n := 26) (S := fun w' => w'.cell? (ad174.add (x11_2).toNat) = some (.int .i64 (rd l0 x11_2)) ∧ w'.cell? ⟨go28, (x11_2).toNat, none⟩ = some (.slice (some ad177) (rd_L2 x8_3 x11_2).length c175_0) ∧ w'.cell? (ad174.add (x11_2).toNat) = some (.int .i64 (rd l0 x11_2)) ∧ w'.cell? (ad177.add ((ji61)).toNat) = some (.int .i64 (rd (rd_L2 x8_3 x11_2) (ji61))) ∧ w'.cell? (ad178.add (x11_2).toNat) = some (.int .i64 (rd l1 x11_2))) (ds := []) #[false, false, false, false, false, false, false, false, false, false, false, false, false, false, false, false, false, false, false, false, false, false, false, false, false, false] (by kernel_rfl) rfl rfl ⟨((HB.out.cell (World.block_lt_of_cell? w _ hw174_0)).trans hw174_0), hx175_0, ((HB.out.cell (World.block_lt_of_cell? w _ hw176_0)).trans hw176_0), hx177_0, ((HB.out.cell (World.block_lt_of_cell? w _ hw178_0)).trans hw178_0)⟩ (fun hHeld => ?_); refine with_tabW impl_ChangeFrom.tab22 impl_ChangeFrom.bits22 (fun HT_ HW_ => ?_)
                                                                        generalize wr.drew = w68 at HO_8 HL168_0 HR168_0 HB HL175_0 HR175_0 HX175_0 hx174_0 hx175_0 hx176_0 hx177_0 hx178_0 hHeld ⊢
                                                                        refine pure_ (i := 0) (N := some 89) (v := ?_) (a' := ?_) #[true, false, false, false, false, false, false, false, false, false, false, false, false, false, false, false, false, false, false, false, false, false, false, false, false, false] rfl rfl (any_of HT_.out (by kernel_rfl)) (fun _ _ _ h => h) (Or.inl ⟨by rfl, ?_⟩) ?_ ?_
                                                                        rotate_left
                                                                        · intro w'
                                                                          go_simp
                                                                          with_reducible rfl
                                                                        rotate_left
                                                                        · simp only [Act.put, List.setIfInBounds_toArray, List.set_cons_zero, List.set_cons_succ, i64_w, i32_w]
                                                                          rfl
                                                                        refine pure_ (i := 1) (N := some 90) (v := ?_) (a' := ?_) #[true, true, false, false, false, false, false, false, false, false, false, false, false, false, false, false, false, false, false, false, false, false, false, false, false, false] rfl rfl (any_of HT_.out (by kernel_rfl)) (fun _ _ _ h => h) (Or.inl ⟨by rfl, ?_⟩) ?_ ?_
                                                                        rotate_left
                                                                        · intro w'
                                                                          go_simp
                                                                          with_reducible rfl
                                                                        rotate_left
                                                                        · simp only [Act.put, List.setIfInBounds_toArray, List.set_cons_zero, List.set_cons_succ, i64_w, i32_w]
                                                                          rfl
                                                                        refine pure_ (i := 2) (N := some 91) (v := ?_) (a' := ?_) #[true, true, true, false, false, false, false, false, false, false, false, false, false, false, false, false, false, false, false, false, false, false, false, false, false, false] rfl rfl (any_of HT_.out (by kernel_rfl)) (fun _ _ _ h => h) (Or.inl ⟨by rfl, ?_⟩) ?_ ?_
                                                                        rotate_left
                                                                        · intro w'
                                                                          go_simp
                                                                          with_reducible rfl
                                                                        rotate_left
                                                                        · simp only [Act.put, List.setIfInBounds_toArray, List.set_cons_zero, List.set_cons_succ, i64_w, i32_w]
                                                                          rfl
                                                                        refine pure_ (i := 3) (N := some 92) (v := ?_) (a' := ?_) #[true, true, true, true, false, false, false, false, false, false, false, false, false, false, false, false, false, false, false, false, false, false, false, false, false, false] rfl rfl (any_of HT_.out (by kernel_rfl)) (fun _ _ _ h => h) (Or.inl ⟨by rfl, ?_⟩) ?_ ?_
                                                                        rotate_left
                                                                        · intro w'
                                                                          go_simp
                                                                          with_reducible rfl
                                                                        rotate_left
                                                                        · simp only [Act.put, List.setIfInBounds_toArray, List.set_cons_zero, List.set_cons_succ, i64_w, i32_w]
                                                                          rfl
                                                                        refine take_ (i := 4) (N := some 93) (v := ?_) (a' := ?_) #[true, true, true, true, true, false, false, false, false, false, false, false, false, false, false, false, false, false, false, false, false, false, false, false, false, false] rfl rfl (take_ofW HT_.out HW_.out (by kernel_rfl)) (fun _ _ _ h => h) (Or.inl ⟨by rfl, ?_⟩) hHeld ?_ ?_
                                                                        rotate_left
                                                                        · rintro w' ⟨s0, s1, s2, s3, s4⟩
                                                                          go_simp
                                                                          with_reducible rfl
                                                                        rotate_left
                                                                        · simp only [Act.put, List.setIfInBounds_toArray, List.set_cons_zero, List.set_cons_succ, i64_w, i32_w]
                                                                          rfl
                                                                        refine pure_ (i := 5) (N := some 94) (v := ?_) (a' := ?_) #[true, true, true, true, true, true, false, false, false, false, false, false, false, false, false, false, false, false, false, false, false, false, false, false, false, false] rfl rfl (any_of HT_.out (by kernel_rfl)) (fun _ _ _ h => h) (Or.inl ⟨by rfl, ?_⟩) ?_ ?_
                                                                        rotate_left
                                                                        · intro w'
                                                                          go_simp
                                                                          with_reducible rfl
                                                                        rotate_left
                                                                        · simp only [Act.put, List.setIfInBounds_toArray, List.set_cons_zero, List.set_cons_succ, i64_w, i32_w]
                                                                          rfl
                                                                        refine pure_ (i := 6) (N := some 95) (v := ?_) (a' := ?_) #[true, true, true, true, true, true, true, false, false, false, false, false, false, false, false, false, false, false, false, false, false, false, false, false, false, false] rfl rfl (any_of HT_.out (by kernel_rfl)) (fun _ _ _ h => h) (Or.inl ⟨by rfl, ?_⟩) ?_ ?_
                                                                        rotate_left
                                                                        · intro w'
                                                                          go_simp
                                                                          with_reducible rfl
                                                                        rotate_left
                                                                        · simp only [Act.put, List.setIfInBounds_toArray, List.set_cons_zero, List.set_cons_succ, i64_w, i32_w]
                                                                          rfl
                                                                        refine pure_ (i := 7) (N := some 96) (v := ?_) (a' := ?_) #[true, true, true, true, true, true, true, true, false, false, false, false, false, false, false, false, false, false, false, false, false, false, false, false, false, false] rfl rfl (any_of HT_.out (by kernel_rfl)) (fun _ _ _ h => h) (Or.inl ⟨by rfl, ?_⟩) ?_ ?_
                                                                        rotate_left
                                                                        · intro w'
                                                                          go_simp
                                                                          with_reducible rfl
                                                                        rotate_left
                                                                        · simp only [Act.put, List.setIfInBounds_toArray, List.set_cons_zero, List.set_cons_succ, i64_w, i32_w]
                                                                          rfl
                                                                        refine pure_ (i := 8) (N := some 97) (v := ?_) (a' := ?_) #[true, true, true, true, true, true, true, true, true, false, false, false, false, false, false, false, false, false, false, false, false, false, false, false, false, false] rfl rfl (any_of HT_.out (by kernel_rfl)) (fun _ _ _ h => h) (Or.inl ⟨by rfl, ?_⟩) ?_ ?_
                                                                        rotate_left
                                                                        · intro w'
                                                                          go_simp
                                                                          with_reducible rfl
                                                                        rotate_left
                                                                        · simp only [Act.put, List.setIfInBounds_toArray, List.set_cons_zero, List.set_cons_succ, i64_w, i32_w]
                                                                          rfl
                                                                        refine pure_ (i := 9) (N := some 98) (v := ?_) (a' := ?_) #[true, true, true, true, true, true, true, true, true, true, false, false, false, false, false, false, false, false, false, false, false, false, false, false, false, false] rfl rfl (any_of HT_.out (by kernel_rfl)) (fun _ _ _ h => h) (Or.inl ⟨by rfl, ?_⟩) ?_ ?_
                                                                        rotate_left
                                                                        · intro w'
                                                                          go_simp
                                                                          with_reducible rfl
                                                                        rotate_left
                                                                        · simp only [Act.put, List.setIfInBounds_toArray, List.set_cons_zero, List.set_cons_succ, i64_w, i32_w]
                                                                          rfl
                                                                        refine pure_ (i := 11) (N := some 100) (v := ?_) (a' := ?_) #[true, true, true, true, true, true, true, true, true, true, false, true, false, false, false, false, false, false, false, false, false, false, false, false, false, false] rfl rfl (any_of HT_.out (by kernel_rfl)) (fun _ _ _ h => h) (Or.inl ⟨by rfl, ?_⟩) ?_ ?_
                                                                        rotate_left
                                                                        · intro w'
                                                                          go_simp
                                                                          with_reducible rfl
                                                                        rotate_left
                                                                        · simp only [Act.put, List.setIfInBounds_toArray, List.set_cons_zero, List.set_cons_succ, i64_w, i32_w]
                                                                          rfl
                                                                        refine pure_ (i := 12) (N := some 101) (v := ?_) (a' := ?_) #[true, true, true, true, true, true, true, true, true, true, false, true, true, false, false, false, false, false, false, false, false, false, false, false, false, false] rfl rfl (any_of HT_.out (by kernel_rfl)) (fun _ _ _ h => h) (Or.inl ⟨by rfl, ?_⟩) ?_ ?_
                                                                        rotate_left
                                                                        · intro w'
                                                                          go_simp
                                                                          with_reducible rfl
                                                                        rotate_left
                                                                        · simp only [Act.put, List.setIfInBounds_toArray, List.set_cons_zero, List.set_cons_succ, i64_w, i32_w]
                                                                          rfl
                                                                        refine pure_ (i := 13) (N := some 102) (v := ?_) (a' := ?_) #[true, true, true, true, true, true, true, true, true, true, false, true, true, true, false, false, false, false, false, false, false, false, false, false, false, false] rfl rfl (any_of HT_.out (by kernel_rfl)) (fun _ _ _ h => h) (Or.inl ⟨by rfl, ?_⟩) ?_ ?_
                                                                        rotate_left
                                                                        · intro w'
                                                                          go_simp
                                                                          with_reducible rfl
                                                                        rotate_left
                                                                        · simp only [Act.put, List.setIfInBounds_toArray, List.set_cons_zero, List.set_cons_succ, i64_w, i32_w]
                                                                          rfl
                                                                        refine pure_ (i := 14) (N := some 103) (v := ?_) (a' := ?_) #[true, true, true, true, true, true, true, true, true, true, false, true, true, true, true, false, false, false, false, false, false, false, false, false, false, false] rfl rfl (any_of HT_.out (by kernel_rfl)) (fun _ _ _ h => h) (Or.inl ⟨by rfl, ?_⟩) ?_ ?_
                                                                        rotate_left
                                                                        · intro w'
                                                                          go_simp
                                                                          with_reducible rfl
                                                                        rotate_left
                                                                        · simp only [Act.put, List.setIfInBounds_toArray, List.set_cons_zero, List.set_cons_succ, i64_w, i32_w]
                                                                          rfl
                                                                        refine pure_ (i := 19) (N := some 108) (v := ?_) (a' := ?_) #[true, true, true, true, true, true, true, true, true, true, false, true, true, true, true, false, false, false, false, true, false, false, false, false, false, false] rfl rfl (any_of HT_.out (by kernel_rfl)) (fun _ _ _ h => h) (Or.inl ⟨by rfl, ?_⟩) ?_ ?_
                                                                        rotate_left
                                                                        · intro w'
                                                                          go_simp
                                                                          with_reducible rfl
                                                                        rotate_left
                                                                        · simp only [Act.put, List.setIfInBounds_toArray, List.set_cons_zero, List.set_cons_succ, i64_w, i32_w]
                                                                          rfl
                                                                        refine pure_ (i := 20) (N := some 109) (v := ?_) (a' := ?_) #[true, true, true, true, true, true, true, true, true, true, false, true, true, true, true, false, false, false, false, true, true, false, false, false, false, false] rfl rfl (any_of HT_.out (by kernel_rfl)) (fun _ _ _ h => h) (Or.inl ⟨by rfl, ?_⟩) ?_ ?_
                                                                        rotate_left
                                                                        · intro w'
                                                                          go_simp
                                                                          with_reducible rfl
                                                                        rotate_left
                                                                        · simp only [Act.put, List.setIfInBounds_toArray, List.set_cons_zero, List.set_cons_succ, i64_w, i32_w]
                                                                          rfl
                                                                        refine pure_ (i := 21) (N := some 110) (v := ?_) (a' := ?_) #[true, true, true, true, true, true, true, true, true, true, false, true, true, true, true, false, false, false, false, true, true, true, false, false, false, false] rfl rfl (any_of HT_.out (by kernel_rfl)) (fun _ _ _ h => h) (Or.inl ⟨by rfl, ?_⟩) ?_ ?_
                                                                        rotate_left
                                                                        · intro w'
                                                                          go_simp
                                                                          with_reducible rfl
                                                                        rotate_left
                                                                        · simp only [Act.put, List.setIfInBounds_toArray, List.set_cons_zero, List.set_cons_succ, i64_w, i32_w]
                                                                          rfl
                                                                        refine take_ (i := 10) (N := some 99) (v := ?_) (a' := ?_) #[true, true, true, true, true, true, true, true, true, true, true, true, true, true, true, false, false, false, false, true, true, true, false, false, false, false] rfl rfl (take_ofW HT_.out HW_.out (by kernel_rfl)) (fun _ _ _ h => h) (Or.inl ⟨by rfl, ?_⟩) hHeld ?_ ?_
                                                                        rotate_left
                                                                        · rintro w' ⟨s0, s1, s2, s3, s4⟩
                                                                          go_simp
                                                                          with_reducible rfl
                                                                        rotate_left
                                                                        · simp only [Act.put, List.setIfInBounds_toArray, List.set_cons_zero, List.set_cons_succ, i64_w, i32_w]
                                                                          rfl
                                                                        refine take_ (i := 15) (N := some 104) (v := ?_) (a' := ?_) #[true, true, true, true, true, true, true, true, true, true, true, true, true, true, true, true, false, false, false, true, true, true, false, false, false, false] rfl rfl (take_ofW HT_.out HW_.out (by kernel_rfl)) (fun _ _ _ h => h) (Or.inl ⟨by rfl, ?_⟩) hHeld ?_ ?_
                                                                        rotate_left
                                                                        · rintro w' ⟨s0, s1, s2, s3, s4⟩
                                                                          go_simp
                                                                          with_reducible rfl
                                                                        rotate_left
                                                                        · simp only [Act.put, List.setIfInBounds_toArray, List.set_cons_zero, List.set_cons_succ, i64_w, i32_w]
                                                                          rfl
                                                                        refine pure_ (i := 16) (N := some 105) (v := ?_) (a' := ?_) #[true, true, true, true, true, true, true, true, true, true, true, true, true, true, true, true, true, false, false, true, true, true, false, false, false, false] rfl rfl (any_of HT_.out (by kernel_rfl)) (fun _ _ _ h => h) (Or.inl ⟨by rfl, ?_⟩) ?_ ?_
                                                                        rotate_left
                                                                        · intro w'
                                                                          go_simp
                                                                          with_reducible rfl
                                                                        rotate_left
                                                                        · simp only [Act.put, List.setIfInBounds_toArray, List.set_cons_zero, List.set_cons_succ, i64_w, i32_w]
                                                                          rfl
                                                                        refine pure_ (i := 17) (N := some 106) (v := ?_) (a' := ?_) #[true, true, true, true, true, true, true, true, true, true, true, true, true, true, true, true, true, true, false, true, true, true, false, false, false, false] rfl rfl (any_of HT_.out (by kernel_rfl)) (fun _ _ _ h => h) (Or.inl ⟨by rfl, ?_⟩) ?_ ?_
                                                                        rotate_left
                                                                        · intro w'
                                                                          go_simp
                                                                          with_reducible rfl
                                                                        rotate_left
                                                                        · simp only [Act.put, List.setIfInBounds_toArray, List.set_cons_zero, List.set_cons_succ, i64_w, i32_w]
                                                                          rfl
                                                                        refine take_ (i := 18) (N := some 107) (v := ?_) (a' := ?_) #[true, true, true, true, true, true, true, true, true, true, true, true, true, true, true, true, true, true, true, true, true, true, false, false, false, false] rfl rfl (take_ofW HT_.out HW_.out (by kernel_rfl)) (fun _ _ _ h => h) (Or.inl ⟨by rfl, ?_⟩) hHeld ?_ ?_
                                                                        rotate_left
                                                                        · rintro w' ⟨s0, s1, s2, s3, s4⟩
                                                                          go_simp
                                                                          with_reducible rfl
                                                                        rotate_left
                                                                        · simp only [Act.put, List.setIfInBounds_toArray, List.set_cons_zero, List.set_cons_succ, i64_w, i32_w]
                                                                          rfl
                                                                        refine take_ (i := 22) (N := some 111) (v := ?_) (a' := ?_) #[true, true, true, true, true, true, true, true, true, true, true, true, true, true, true, true, true, true, true, true, true, true, true, false, false, false] rfl rfl (take_ofW HT_.out HW_.out (by kernel_rfl)) (fun _ _ _ h => h) (Or.inl ⟨by rfl, ?_⟩) hHeld ?_ ?_
                                                                        rotate_left
                                                                        · rintro w' ⟨s0, s1, s2, s3, s4⟩
                                                                          go_simp
                                                                          with_reducible rfl
                                                                        rotate_left
                                                                        · simp only [Act.put, List.setIfInBounds_toArray, List.set_cons_zero, List.set_cons_succ, i64_w, i32_w]
                                                                          rfl
                                                                        refine pure_ (i := 23) (N := some 112) (v := ?_) (a' := ?_) #[true, true, true, true, true, true, true, true, true, true, true, true, true, true, true, true, true, true, true, true, true, true, true, true, false, false] rfl rfl (any_of HT_.out (by kernel_rfl)) (fun _ _ _ h => h) (Or.inl ⟨by rfl, ?_⟩) ?_ ?_
                                                                        rotate_left
                                                                        · intro w'
                                                                          go_simp
                                                                          with_reducible rfl
                                                                        rotate_left
                                                                        · simp only [Act.put, List.setIfInBounds_toArray, List.set_cons_zero, List.set_cons_succ, i64_w, i32_w]
                                                                          rfl
                                                                        refine pure_ (i := 24) (N := some 113) (v := ?_) (a' := ?_) #[true, true, true, true, true, true, true, true, true, true, true, true, true, true, true, true, true, true, true, true, true, true, true, true, true, false] rfl rfl (any_of HT_.out (by kernel_rfl)) (fun _ _ _ h => h) (Or.inl ⟨by rfl, ?_⟩) ?_ ?_
                                                                        rotate_left
                                                                        · intro w'
                                                                          go_simp
                                                                          with_reducible rfl
                                                                        rotate_left
                                                                        · simp only [Act.put, List.setIfInBounds_toArray, List.set_cons_zero, List.set_cons_succ, i64_w, i32_w]
                                                                          rfl
                                                                        refine pure_ (i := 25) (N := some 88) (v := ?_) (a' := ?_) #[true, true, true, true, true, true, true, true, true, true, true, true, true, true, true, true, true, true, true, true, true, true, true, true, true, true] rfl rfl (any_of HT_.out (by kernel_rfl)) (fun _ _ _ h => h) (Or.inl ⟨by rfl, ?_⟩) ?_ ?_
                                                                        rotate_left
                                                                        · intro w'
                                                                          go_simp
                                                                          with_reducible rfl
                                                                        rotate_left
                                                                        · simp only [Act.put, List.setIfInBounds_toArray, List.set_cons_zero, List.set_cons_succ, i64_w, i32_w]
                                                                          rfl
                                                                        refine done_ (done_of HT_.out (by kernel_rfl)) ?_
                                                                        try go_wp2
                                                                        have n0_ := Aside0.mk (Kd.S_drew HO_8.out)
                                                                        have n1_ := Aside0.mk (Kd.R_drew HL168_0.out)
                                                                        have n2_ := Aside0.mk (Kd.R_drew HL175_0.out)
                                                                        have n3_ := Aside0.mk (Kd.C_drew HR168_0.out)
                                                                        have n4_ := Aside0.mk (Kd.C_drew HR175_0.out)
                                                                        have n5_ := Aside0.mk (below_drew1 HB.out)
                                                                        clear HO_8
                                                                        clear HL168_0
                                                                        clear HL175_0
                                                                        clear HR168_0
                                                                        clear HR175_0
                                                                        clear HB
                                                                        have HO_8 := n0_
                                                                        have HL168_0 := n1_
                                                                        have HL175_0 := n2_
                                                                        have HR168_0 := n3_
                                                                        have HR175_0 := n4_
                                                                        have HB := n5_
                                                                        clear n0_ n1_ n2_ n3_ n4_ n5_
                                                                        have p179 : 0 ≤ (x11_2 : Int) := of_decide_eq_true (by first | (with_reducible assumption) | assumption)
                                                                        have q179 : x11_2 < (x8_3.length : Int) := of_decide_eq_true (by first | (with_reducible assumption) | assumption)
                                                                        obtain ⟨ad179, A179_0, c179_0, e179, hx179_0, hl179_0, hi179_0⟩ := at_L2 (Kd.S_reads' HO_8.out).2.2 x11_2 p179 q179
                                                                        obtain rfl : (⟨go28, 0, none⟩ : Addr) = ad179 := (by injection e179)
                                                                        obtain ⟨ce179, hce179, hMe179, hcc179⟩ := Kd.S_get HO_8.out [] x11_2 p179 (by first | exact q179 | exact of_decide_eq_true (by first | (with_reducible assumption) | assumption) | (have e_ := (Kd.S_reads' HO_8.out).1; omega))
                                                                        obtain ⟨ve179_0, rfl, ge179_0⟩ := hMe179
                                                                        have hv179_0 := hcc179 0 _ rfl
                                                                        rw [Nat.add_zero, show ((Kd.slice 3 (Kd.int .i64))).sz = 1 from rfl, Nat.mul_one] at hv179_0
                                                                        replace hv179_0 := Option.some.inj (hv179_0.symm.trans hx179_0)
                                                                        rw [hv179_0] at ge179_0
                                                                        have HL179_0 := Aside0.mk (show Kd.R (Kd.int .i64) 3 _ _ _ _ (rd_L2 x8_3 x11_2) from ge179_0)
                                                                        clear hv179_0 ge179_0
                                                                        have HX179_0 := Aside0.mk hx179_0
                                                                        clear hcc179 hce179
                                                                        (first | simp only [add_plain] at hx179_0 | simp only [add_at] at hx179_0 | simp only [Addr.add, Nat.zero_add] at hx179_0 | skip)
                                                                        have HR179_0 := Aside0.mk hi179_0
                                                                        have HC179_0 := Aside0.mk hl179_0
                                                                        clear hi179_0 hl179_0
                                                                        replace p179 := eq_true p179
                                                                        replace q179 := eq_true q179
                                                                        have p180 : 0 ≤ (x11_2 : Int) := of_decide_eq_true (by first | (with_reducible assumption) | assumption)
                                                                        have q180 : x11_2 < (x8_3.length : Int) := of_decide_eq_true (by first | (with_reducible assumption) | assumption)
                                                                        obtain ⟨ad180, A180_0, c180_0, e180, hx180_0, hl180_0, hi180_0⟩ := at_L2 (Kd.S_reads' HO_8.out).2.2 x11_2 p180 q180
                                                                        obtain rfl : (⟨go28, 0, none⟩ : Addr) = ad180 := (by injection e180)
                                                                        obtain ⟨ce180, hce180, hMe180, hcc180⟩ := Kd.S_get HO_8.out [] x11_2 p180 (by first | exact q180 | exact of_decide_eq_true (by first | (with_reducible assumption) | assumption) | (have e_ := (Kd.S_reads' HO_8.out).1; omega))
                                                                        obtain ⟨ve180_0, rfl, ge180_0⟩ := hMe180
                                                                        have hv180_0 := hcc180 0 _ rfl
                                                                        rw [Nat.add_zero, show ((Kd.slice 3 (Kd.int .i64))).sz = 1 from rfl, Nat.mul_one] at hv180_0
                                                                        replace hv180_0 := Option.some.inj (hv180_0.symm.trans hx180_0)
                                                                        rw [hv180_0] at ge180_0
                                                                        have HL180_0 := Aside0.mk (show Kd.R (Kd.int .i64) 3 _ _ _ _ (rd_L2 x8_3 x11_2) from ge180_0)
                                                                        clear hv180_0 ge180_0
                                                                        have HX180_0 := Aside0.mk hx180_0
                                                                        clear hcc180 hce180
                                                                        (first | simp only [add_plain] at hx180_0 | simp only [add_at] at hx180_0 | simp only [Addr.add, Nat.zero_add] at hx180_0 | skip)
                                                                        have HR180_0 := Aside0.mk hi180_0
                                                                        have HC180_0 := Aside0.mk hl180_0
                                                                        clear hi180_0 hl180_0
                                                                        replace p180 := eq_true p180
                                                                        replace q180 := eq_true q180
                                                                        have ea_ := Option.some.inj (hx179_0.symm.trans hx180_0)
                                                                        injection ea_ with ea_ en_ ec_
                                                                        subst ea_
                                                                        subst ec_
                                                                        clear en_
                                                                        have p181 : 0 ≤ (x11_2 : Int) := of_decide_eq_true (by first | (with_reducible assumption) | assumption)
                                                                        have q181 : x11_2 < (l0.length : Int) := of_decide_eq_true (by first | (with_reducible assumption) | assumption)
                                                                        obtain ⟨ad181, e181, hx181_0⟩ := Kd.at_int HR0.out x11_2 p181 q181
                                                                        have hw181_0 := hx181_0
                                                                        obtain rfl : ad174 = ad181 := (by injection e181)
                                                                        (try replace hx181_0 := (HB.out.cell (World.block_lt_of_cell? w _ hx181_0)).trans hx181_0)
                                                                        replace p181 := eq_true p181
                                                                        replace q181 := eq_true q181
                                                                        have p182 : 0 ≤ ((ji61) : Int) := of_decide_eq_true (by first | (with_reducible assumption) | assumption)
                                                                        have q182 : (ji61) < ((rd_L2 x8_3 x11_2).length : Int) := of_decide_eq_true (by first | (with_reducible assumption) | assumption)
                                                                        obtain ⟨ad182, e182, hx182_0⟩ := Kd.at_int (by repeat (first | (with_reducible exact HR180_0.out) | (with_reducible refine Kd.C_alloc ?_ _) | (with_reducible refine Kd.C_drewN ?_ _) | (with_reducible refine Kd.C_drew ?_) | exact HR180_0.out)) (ji61) p182 q182
                                                                        cases e182
                                                                        replace p182 := eq_true p182
                                                                        replace q182 := eq_true q182
                                                                        have p67 : 0 ≤ (x63_3 : Int) := of_decide_eq_true (by first | (with_reducible assumption) | assumption)
                                                                        have q67 : (x63_3 : Int) < (((rd_L2 x8_3 x11_2).length : Int) : Int) := of_decide_eq_true (by first | (with_reducible assumption) | assumption)
                                                                        obtain ⟨go67, co67, eo67, gb67, gl67, cl67, HG67⟩ := Kd.R_form HL179_0.out (by omega)
                                                                        (first | cases eo67 | (injection eo67 with ea_ en_ ec_; (first | subst ea_ | (injection ea_ with ea_; subst ea_)); subst ec_; clear en_))
                                                                        have GB67 := Aside0.mk gb67
                                                                        have GG67 := Aside0.mk HG67
                                                                        clear gb67 gl67 HG67
                                                                        (first | simp only [add_plain] at hx182_0 | skip)
                                                                        obtain ⟨hx67_0, hf67_0⟩ := Kd.R_celln 0 HL179_0.out (x63_3 : Int) p67 q67
                                                                        replace p67 := eq_true p67
                                                                        replace q67 := eq_true q67
                                                                        have hq70 : (x11_2 : Int) < (x8_3.length : Int) := (by have h_ : (x11_2 : Int) < ((x8_3.length : Int) : Int) := of_decide_eq_true (by first | (with_reducible assumption) | assumption); first | exact h_ | (have e_ := (Kd.S_reads' HO_8.out).1; omega) | simpa only [List.length_set, List.length_set] using h_)
                                                                        obtain ⟨oki70, ce70, hcl70, hM70, hcc70, hok70, hbk70⟩ := Kd.S_borrow HO_8.out [] (x11_2 : Int) (of_decide_eq_true (by first | (with_reducible assumption) | assumption)) hq70
                                                                        obtain ⟨ve70_0, rfl, ge70_0⟩ := hM70
                                                                        have hv70 := hcc70 0 _ rfl
                                                                        rw [Nat.add_zero, show ((Kd.slice 3 (Kd.int .i64))).sz = 1 from rfl, Nat.mul_one] at hv70
                                                                        replace hv70 := Option.some.inj (hv70.symm.trans HX179_0.out)
                                                                        subst hv70
                                                                        (try clear hcc70); (try clear hcl70)
                                                                        replace ge70_0 := (show Kd.R (Kd.int .i64) 3 _ _ _ _ (rd_L2 x8_3 x11_2) from ge70_0)
                                                                        have HP70 := Kd.R_putg ge70_0 (x63_3 : Int) (wrap64 ((rd (rd_L2 x8_3 x11_2) (ji61)) + 1))
                                                                        rw [← Ny183.out] at HP70
                                                                        have HS70 := hbk70 HP70.2 (fun k_ e_ => by injection e_ with e_; subst e_; exact ge70_0.1 _ rfl) (x' := y183) (Kd.M_row HP70.1)
                                                                        rw [← Ny185.out] at HS70
                                                                        have HQ70 := Aside0.mk HS70
                                                                        clear HP70 HS70 hbk70 hok70
                                                                        refine start_ (n := 20) (S := fun w' => w'.cell? ⟨go28, (x11_2).toNat, none⟩ = some (.slice (some ⟨go67, 0, none⟩) (rd_L2 x8_3 x11_2).length c179_0) ∧ w'.cell? ⟨go28, (x11_2).toNat, none⟩ = some (.slice (some ⟨go67, 0, none⟩) (rd_L2 x8_3 x11_2).length c179_0) ∧ w'.cell? (ad174.add (x11_2).toNat) = some (.int .i64 (rd l0 x11_2)) ∧ w'.cell? ⟨go67, ((ji61)).toNat, none⟩ = some (.int .i64 (rd (rd_L2 x8_3 x11_2) (ji61)))) (ds := [19]) #[false, false, false, false, false, false, false, false, false, false, false, false, false, false, false, false, false, false, false, false] (by kernel_rfl) rfl rfl ⟨hx179_0, hx180_0, ((HB.out.cell (World.block_lt_of_cell? w _ hw181_0)).trans hw181_0), hx182_0⟩ (fun hHeld => ?_); refine with_tabW impl_ChangeFrom.tab23 impl_ChangeFrom.bits23 (fun HT_ HW_ => ?_)
                                                                        generalize w68.drew = w69 at HO_8 HL168_0 HL175_0 HR168_0 HR175_0 HB GG67 HL179_0 HL180_0 HQ70 HR179_0 HR180_0 HX179_0 HX180_0 hf67_0 hx179_0 hx180_0 hx181_0 hx182_0 hx67_0 hHeld ⊢
                                                                        refine pure_ (i := 0) (N := some 114) (v := ?_) (a' := ?_) #[true, false, false, false, false, false, false, false, false, false, false, false, false, false, false, false, false, false, false, false] rfl rfl (any_of HT_.out (by kernel_rfl)) (fun _ _ _ h => h) (Or.inl ⟨by rfl, ?_⟩) ?_ ?_
                                                                        rotate_left
                                                                        · intro w'
                                                                          go_simp
                                                                          with_reducible rfl
                                                                        rotate_left
                                                                        · simp only [Act.put, List.setIfInBounds_toArray, List.set_cons_zero, List.set_cons_succ, i64_w, i32_w]
                                                                          rfl
                                                                        refine pure_ (i := 1) (N := some 115) (v := ?_) (a' := ?_) #[true, true, false, false, false, false, false, false, false, false, false, false, false, false, false, false, false, false, false, false] rfl rfl (any_of HT_.out (by kernel_rfl)) (fun _ _ _ h => h) (Or.inl ⟨by rfl, ?_⟩) ?_ ?_
                                                                        rotate_left
                                                                        · intro w'
                                                                          go_simp
                                                                          with_reducible rfl
                                                                        rotate_left
                                                                        · simp only [Act.put, List.setIfInBounds_toArray, List.set_cons_zero, List.set_cons_succ, i64_w, i32_w]
                                                                          rfl
                                                                        refine pure_ (i := 2) (N := some 116) (v := ?_) (a' := ?_) #[true, true, true, false, false, false, false, false, false, false, false, false, false, false, false, false, false, false, false, false] rfl rfl (any_of HT_.out (by kernel_rfl)) (fun _ _ _ h => h) (Or.inl ⟨by rfl, ?_⟩) ?_ ?_
                                                                        rotate_left
                                                                        · intro w'
                                                                          go_simp
                                                                          with_reducible rfl
                                                                        rotate_left
                                                                        · simp only [Act.put, List.setIfInBounds_toArray, List.set_cons_zero, List.set_cons_succ, i64_w, i32_w]
                                                                          rfl
                                                                        refine pure_ (i := 4) (N := some 118) (v := ?_) (a' := ?_) #[true, true, true, false, true, false, false, false, false, false, false, false, false, false, false, false, false, false, false, false] rfl rfl (any_of HT_.out (by kernel_rfl)) (fun _ _ _ h => h) (Or.inl ⟨by rfl, ?_⟩) ?_ ?_
                                                                        rotate_left
                                                                        · intro w'
                                                                          go_simp
                                                                          with_reducible rfl
                                                                        rotate_left
                                                                        · simp only [Act.put, List.setIfInBounds_toArray, List.set_cons_zero, List.set_cons_succ, i64_w, i32_w]
                                                                          rfl
                                                                        refine pure_ (i := 5) (N := some 119) (v := ?_) (a' := ?_) #[true, true, true, false, true, true, false, false, false, false, false, false, false, false, false, false, false, false, false, false] rfl rfl (any_of HT_.out (by kernel_rfl)) (fun _ _ _ h => h) (Or.inl ⟨by rfl, ?_⟩) ?_ ?_
                                                                        rotate_left
                                                                        · intro w'
                                                                          go_simp
                                                                          with_reducible rfl
                                                                        rotate_left
                                                                        · simp only [Act.put, List.setIfInBounds_toArray, List.set_cons_zero, List.set_cons_succ, i64_w, i32_w]
                                                                          rfl
                                                                        refine pure_ (i := 6) (N := some 120) (v := ?_) (a' := ?_) #[true, true, true, false, true, true, true, false, false, false, false, false, false, false, false, false, false, false, false, false] rfl rfl (any_of HT_.out (by kernel_rfl)) (fun _ _ _ h => h) (Or.inl ⟨by rfl, ?_⟩) ?_ ?_
                                                                        rotate_left
                                                                        · intro w'
                                                                          go_simp
                                                                          with_reducible rfl
                                                                        rotate_left
                                                                        · simp only [Act.put, List.setIfInBounds_toArray, List.set_cons_zero, List.set_cons_succ, i64_w, i32_w]
                                                                          rfl
                                                                        refine pure_ (i := 7) (N := some 121) (v := ?_) (a' := ?_) #[true, true, true, false, true, true, true, true, false, false, false, false, false, false, false, false, false, false, false, false] rfl rfl (any_of HT_.out (by kernel_rfl)) (fun _ _ _ h => h) (Or.inl ⟨by rfl, ?_⟩) ?_ ?_
                                                                        rotate_left
                                                                        · intro w'
                                                                          go_simp
                                                                          with_reducible rfl
                                                                        rotate_left
                                                                        · simp only [Act.put, List.setIfInBounds_toArray, List.set_cons_zero, List.set_cons_succ, i64_w, i32_w]
                                                                          rfl
                                                                        refine pure_ (i := 9) (N := some 123) (v := ?_) (a' := ?_) #[true, true, true, false, true, true, true, true, false, true, false, false, false, false, false, false, false, false, false, false] rfl rfl (any_of HT_.out (by kernel_rfl)) (fun _ _ _ h => h) (Or.inl ⟨by rfl, ?_⟩) ?_ ?_
                                                                        rotate_left
                                                                        · intro w'
                                                                          go_simp
                                                                          with_reducible rfl
                                                                        rotate_left
                                                                        · simp only [Act.put, List.setIfInBounds_toArray, List.set_cons_zero, List.set_cons_succ, i64_w, i32_w]
                                                                          rfl
                                                                        refine pure_ (i := 10) (N := some 124) (v := ?_) (a' := ?_) #[true, true, true, false, true, true, true, true, false, true, true, false, false, false, false, false, false, false, false, false] rfl rfl (any_of HT_.out (by kernel_rfl)) (fun _ _ _ h => h) (Or.inl ⟨by rfl, ?_⟩) ?_ ?_
                                                                        rotate_left
                                                                        · intro w'
                                                                          go_simp
                                                                          with_reducible rfl
                                                                        rotate_left
                                                                        · simp only [Act.put, List.setIfInBounds_toArray, List.set_cons_zero, List.set_cons_succ, i64_w, i32_w]
                                                                          rfl
                                                                        refine pure_ (i := 11) (N := some 125) (v := ?_) (a' := ?_) #[true, true, true, false, true, true, true, true, false, true, true, true, false, false, false, false, false, false, false, false] rfl rfl (any_of HT_.out (by kernel_rfl)) (fun _ _ _ h => h) (Or.inl ⟨by rfl, ?_⟩) ?_ ?_
                                                                        rotate_left
                                                                        · intro w'
                                                                          go_simp
                                                                          with_reducible rfl
                                                                        rotate_left
                                                                        · simp only [Act.put, List.setIfInBounds_toArray, List.set_cons_zero, List.set_cons_succ, i64_w, i32_w]
                                                                          rfl
                                                                        refine pure_ (i := 12) (N := some 126) (v := ?_) (a' := ?_) #[true, true, true, false, true, true, true, true, false, true, true, true, true, false, false, false, false, false, false, false] rfl rfl (any_of HT_.out (by kernel_rfl)) (fun _ _ _ h => h) (Or.inl ⟨by rfl, ?_⟩) ?_ ?_
                                                                        rotate_left
                                                                        · intro w'
                                                                          go_simp
                                                                          with_reducible rfl
                                                                        rotate_left
                                                                        · simp only [Act.put, List.setIfInBounds_toArray, List.set_cons_zero, List.set_cons_succ, i64_w, i32_w]
                                                                          rfl
                                                                        refine take_ (i := 3) (N := some 117) (v := ?_) (a' := ?_) #[true, true, true, true, true, true, true, true, false, true, true, true, true, false, false, false, false, false, false, false] rfl rfl (take_ofW HT_.out HW_.out (by kernel_rfl)) (fun _ _ _ h => h) (Or.inl ⟨by rfl, ?_⟩) hHeld ?_ ?_
                                                                        rotate_left
                                                                        · rintro w' ⟨s0, s1, s2, s3⟩
                                                                          go_simp
                                                                          with_reducible rfl
                                                                        rotate_left
                                                                        · simp only [Act.put, List.setIfInBounds_toArray, List.set_cons_zero, List.set_cons_succ, i64_w, i32_w]
                                                                          rfl
                                                                        refine take_ (i := 8) (N := some 122) (v := ?_) (a' := ?_) #[true, true, true, true, true, true, true, true, true, true, true, true, true, false, false, false, false, false, false, false] rfl rfl (take_ofW HT_.out HW_.out (by kernel_rfl)) (fun _ _ _ h => h) (Or.inl ⟨by rfl, ?_⟩) hHeld ?_ ?_
                                                                        rotate_left
                                                                        · rintro w' ⟨s0, s1, s2, s3⟩
                                                                          go_simp
                                                                          with_reducible rfl
                                                                        rotate_left
                                                                        · simp only [Act.put, List.setIfInBounds_toArray, List.set_cons_zero, List.set_cons_succ, i64_w, i32_w]
                                                                          rfl
                                                                        refine take_ (i := 13) (N := some 127) (v := ?_) (a' := ?_) #[true, true, true, true, true, true, true, true, true, true, true, true, true, true, false, false, false, false, false, false] rfl rfl (take_ofW HT_.out HW_.out (by kernel_rfl)) (fun _ _ _ h => h) (Or.inl ⟨by rfl, ?_⟩) hHeld ?_ ?_
                                                                        rotate_left
                                                                        · rintro w' ⟨s0, s1, s2, s3⟩
                                                                          go_simp
                                                                          with_reducible rfl
                                                                        rotate_left
                                                                        · simp only [Act.put, List.setIfInBounds_toArray, List.set_cons_zero, List.set_cons_succ, i64_w, i32_w]
                                                                          rfl
                                                                        refine pure_ (i := 14) (N := some 128) (v := ?_) (a' := ?_) #[true, true, true, true, true, true, true, true, true, true, true, true, true, true, true, false, false, false, false, false] rfl rfl (any_of HT_.out (by kernel_rfl)) (fun _ _ _ h => h) (Or.inl ⟨by rfl, ?_⟩) ?_ ?_
                                                                        rotate_left
                                                                        · intro w'
                                                                          go_simp
                                                                          with_reducible rfl
                                                                        rotate_left
                                                                        · simp only [Act.put, List.setIfInBounds_toArray, List.set_cons_zero, List.set_cons_succ, i64_w, i32_w]
                                                                          rfl
                                                                        refine pure_ (i := 15) (N := some 129) (v := ?_) (a' := ?_) #[true, true, true, true, true, true, true, true, true, true, true, true, true, true, true, true, false, false, false, false] rfl rfl (any_of HT_.out (by kernel_rfl)) (fun _ _ _ h => h) (Or.inl ⟨by rfl, ?_⟩) ?_ ?_
                                                                        rotate_left
                                                                        · intro w'
                                                                          go_simp
                                                                          with_reducible rfl
                                                                        rotate_left
                                                                        · simp only [Act.put, List.setIfInBounds_toArray, List.set_cons_zero, List.set_cons_succ, i64_w, i32_w]
                                                                          rfl
                                                                        refine take_ (i := 16) (N := some 130) (v := ?_) (a' := ?_) #[true, true, true, true, true, true, true, true, true, true, true, true, true, true, true, true, true, false, false, false] rfl rfl (take_ofW HT_.out HW_.out (by kernel_rfl)) (fun _ _ _ h => h) (Or.inl ⟨by rfl, ?_⟩) hHeld ?_ ?_
                                                                        rotate_left
                                                                        · rintro w' ⟨s0, s1, s2, s3⟩
                                                                          go_simp
                                                                          with_reducible rfl
                                                                        rotate_left
                                                                        · simp only [Act.put, List.setIfInBounds_toArray, List.set_cons_zero, List.set_cons_succ, i64_w, i32_w]
                                                                          rfl
                                                                        refine pure_ (i := 17) (N := some 131) (v := ?_) (a' := ?_) #[true, true, true, true, true, true, true, true, true, true, true, true, true, true, true, true, true, true, false, false] rfl rfl (any_of HT_.out (by kernel_rfl)) (fun _ _ _ h => h) (Or.inl ⟨by rfl, ?_⟩) ?_ ?_
                                                                        rotate_left
                                                                        · intro w'
                                                                          go_simp
                                                                          with_reducible rfl
                                                                        rotate_left
                                                                        · simp only [Act.put, List.setIfInBounds_toArray, List.set_cons_zero, List.set_cons_succ, i64_w, i32_w]
                                                                          rfl
                                                                        refine pure_ (i := 18) (N := some 132) (v := ?_) (a' := ?_) #[true, true, true, true, true, true, true, true, true, true, true, true, true, true, true, true, true, true, true, false] rfl rfl (any_of HT_.out (by kernel_rfl)) (fun _ _ _ h => h) (Or.inl ⟨by rfl, ?_⟩) ?_ ?_
                                                                        rotate_left
                                                                        · intro w'
                                                                          go_simp
                                                                          with_reducible rfl
                                                                        rotate_left
                                                                        · simp only [Act.put, List.setIfInBounds_toArray, List.set_cons_zero, List.set_cons_succ, i64_w, i32_w]
                                                                          rfl
                                                                        refine last_ (i := 19) (N := none) #[true, true, true, true, true, true, true, true, true, true, true, true, true, true, true, true, true, true, true, true] rfl rfl (one_of HT_.out (by kernel_rfl)) (by decide) (fun K hK => ?_)
                                                                        refine skip_ (w1 := ?_) (by rfl) rfl ?_ ?_
                                                                        rotate_left
                                                                        · go_simp
                                                                          rfl
                                                                        refine hK.out _ _ ?_
                                                                        clear hK K
                                                                        refine done_ (done_of HT_.out (by kernel_rfl)) ?_
                                                                        try go_wp2
                                                                        (try simp only [← hl8_3])
                                                                        go_roundg k3
                                                                        case measure => have := HK1.out; have := HK2.out; have := HK3.out; omega
                                                                        case rel => exact ⟨(y185), (wrap64 (x63_3 + 1)), (by first | rfl | (simp; done) | (simp [*]; done)), H', ⟨by have := HK1.out; have := HK2.out; have := HK3.out; omega⟩, ⟨by (try simp only [hl9_1]); (try simp only [hl8_2]); (try simp only [hl8_3]); (with_reducible repeat (first | apply Kd.S_alloc | apply Kd.S_drewN | apply Kd.S_drew)); exact HQ70.out⟩, ⟨by repeat (first | (with_reducible first | exact HB.out | apply below_alloc | apply pw_below_drewN | apply below_drew1 | refine below_set ?_ GB67.out) | exact HB.out)⟩⟩
                                                                      · rw [if_neg c66] at H
                                                                        exact absurd H (by simp)
                                                                    · rw [if_neg c65] at H
                                                                      have c65b0 : decide ((rd (rd_L2 x8_3 x11_2) (ji61)) < (rd l1 x11_2)) = false := decide_eq_false c65
                                                                      clear c65
                                                                      by_cases c72 : x63_3 < ((rd_L2 x8_3 x11_2).length : Int)
                                                                      · rw [if_pos c72] at H
                                                                        have c72b0 : decide (x63_3 < ((rd_L2 x8_3 x11_2).length : Int)) = true := decide_eq_true c72
                                                                        clear c72
                                                                        obtain ⟨y187, hy187⟩ : ∃ y_ : List Int, y_ = ((rd_L2 x8_3 x11_2).set (x63_3 : Int).toNat 1001) := ⟨_, rfl⟩
                                                                        replace H : (impl_ChangeFrom.l2 k3 l0 l1 a2 (x8_3.set (x11_2 : Int).toNat y187) x11_2 ((rd_L2 y166 x11_2).length : Int) (wrap64 (x63_3 + 1))) = some (r1, r2) := by first | (rw [hy187]; with_reducible exact H) | (have H2_ := (Option.bind_some _ _).symm.trans H; rw [hy187]; with_reducible exact H2_) | (have H2_ := (Option.bind_some _ _).symm.trans H; with_reducible exact H2_) | with_reducible exact H | (rw [hy187]; exact H) | exact H
                                                                        have Ny187 := Aside0.mk hy187
                                                                        clear hy187
                                                                        obtain ⟨y189, hy189⟩ : ∃ y_ : List (List Int), y_ = (x8_3.set (x11_2 : Int).toNat y187) := ⟨_, rfl⟩
                                                                        replace H : (impl_ChangeFrom.l2 k3 l0 l1 a2 y189 x11_2 ((rd_L2 y166 x11_2).length : Int) (wrap64 (x63_3 + 1))) = some (r1, r2) := by first | (rw [hy189]; with_reducible exact H) | (have H2_ := (Option.bind_some _ _).symm.trans H; rw [hy189]; with_reducible exact H2_) | (have H2_ := (Option.bind_some _ _).symm.trans H; with_reducible exact H2_) | with_reducible exact H | (rw [hy189]; exact H) | exact H
                                                                        have Ny189 := Aside0.mk hy189
                                                                        clear hy189
                                                                        have H' := Aside0.mk H
                                                                        clear H
                                                                        have p168 : 0 ≤ ((ji45) : Int) := of_decide_eq_true (by first | (with_reducible assumption) | assumption)
                                                                        have q168 : (ji45) < (x8_3.length : Int) := of_decide_eq_true (by first | (with_reducible assumption) | assumption)
                                                                        obtain ⟨ad168, A168_0, c168_0, e168, hx168_0, hl168_0, hi168_0⟩ := at_L2 (Kd.S_reads' HO_8.out).2.2 (ji45) p168 q168
                                                                        obtain rfl : (⟨go28, 0, none⟩ : Addr) = ad168 := (by injection e168)
                                                                        obtain ⟨ce168, hce168, hMe168, hcc168⟩ := Kd.S_get HO_8.out [] (ji45) p168 (by first | exact q168 | exact of_decide_eq_true (by first | (with_reducible assumption) | assumption) | (have e_ := (Kd.S_reads' HO_8.out).1; omega))
                                                                        obtain ⟨ve168_0, rfl, ge168_0⟩ := hMe168
                                                                        have hv168_0 := hcc168 0 _ rfl
                                                                        rw [Nat.add_zero, show ((Kd.slice 3 (Kd.int .i64))).sz = 1 from rfl, Nat.mul_one] at hv168_0
                                                                        replace hv168_0 := Option.some.inj (hv168_0.symm.trans hx168_0)
                                                                        rw [hv168_0] at ge168_0
                                                                        have HL168_0 := Aside0.mk (show Kd.R (Kd.int .i64) 3 _ _ _ _ (rd_L2 x8_3 (ji45)) from ge168_0)
                                                                        clear hv168_0 ge168_0
                                                                        have HX168_0 := Aside0.mk hx168_0
                                                                        clear hcc168 hce168
                                                                        (first | simp only [add_plain] at hx168_0 | simp only [add_at] at hx168_0 | simp only [Addr.add, Nat.zero_add] at hx168_0 | skip)
                                                                        have HR168_0 := Aside0.mk hi168_0
                                                                        have HC168_0 := Aside0.mk hl168_0
                                                                        clear hi168_0 hl168_0
                                                                        replace p168 := eq_true p168
                                                                        replace q168 := eq_true q168
                                                                        have p169 : 0 ≤ (x63_3 : Int) := of_decide_eq_true (by first | (with_reducible assumption) | assumption)
                                                                        have q169 : x63_3 < ((rd_L2 x8_3 (ji45)).length : Int) := of_decide_eq_true (by first | (with_reducible assumption) | assumption)
                                                                        obtain ⟨ad169, e169, hx169_0⟩ := Kd.at_int (by repeat (first | (with_reducible exact HR168_0.out) | (with_reducible refine Kd.C_alloc ?_ _) | (with_reducible refine Kd.C_drewN ?_ _) | (with_reducible refine Kd.C_drew ?_) | exact HR168_0.out)) x63_3 p169 q169
                                                                        cases e169
                                                                        replace p169 := eq_true p169
                                                                        replace q169 := eq_true q169
                                                                        try go_wp2
                                                                        have n0_ := Aside0.mk (Kd.S_drew HO_8.out)
                                                                        have n1_ := Aside0.mk (Kd.R_drew HL168_0.out)
                                                                        have n2_ := Aside0.mk (Kd.C_drew HR168_0.out)
                                                                        have n3_ := Aside0.mk (below_drew1 HB.out)
                                                                        clear HO_8
                                                                        clear HL168_0
                                                                        clear HR168_0
                                                                        clear HB
                                                                        have HO_8 := n0_
                                                                        have HL168_0 := n1_
                                                                        have HR168_0 := n2_
                                                                        have HB := n3_
                                                                        clear n0_ n1_ n2_ n3_
                                                                        have p174 : 0 ≤ (x11_2 : Int) := of_decide_eq_true (by first | (with_reducible assumption) | assumption)
                                                                        have q174 : x11_2 < (l0.length : Int) := of_decide_eq_true (by first | (with_reducible assumption) | assumption)
                                                                        obtain ⟨ad174, e174, hx174_0⟩ := Kd.at_int HR0.out x11_2 p174 q174
                                                                        have hw174_0 := hx174_0
                                                                        cases e174
                                                                        (try replace hx174_0 := (HB.out.cell (World.block_lt_of_cell? w _ hx174_0)).trans hx174_0)
                                                                        replace p174 := eq_true p174
                                                                        replace q174 := eq_true q174
                                                                        have p175 : 0 ≤ (x11_2 : Int) := of_decide_eq_true (by first | (with_reducible assumption) | assumption)
                                                                        have q175 : x11_2 < (x8_3.length : Int) := of_decide_eq_true (by first | (with_reducible assumption) | assumption)
                                                                        obtain ⟨ad175, A175_0, c175_0, e175, hx175_0, hl175_0, hi175_0⟩ := at_L2 (Kd.S_reads' HO_8.out).2.2 x11_2 p175 q175
                                                                        obtain rfl : (⟨go28, 0, none⟩ : Addr) = ad175 := (by injection e175)
                                                                        obtain ⟨ce175, hce175, hMe175, hcc175⟩ := Kd.S_get HO_8.out [] x11_2 p175 (by first | exact q175 | exact of_decide_eq_true (by first | (with_reducible assumption) | assumption) | (have e_ := (Kd.S_reads' HO_8.out).1; omega))
                                                                        obtain ⟨ve175_0, rfl, ge175_0⟩ := hMe175
                                                                        have hv175_0 := hcc175 0 _ rfl
                                                                        rw [Nat.add_zero, show ((Kd.slice 3 (Kd.int .i64))).sz = 1 from rfl, Nat.mul_one] at hv175_0
                                                                        replace hv175_0 := Option.some.inj (hv175_0.symm.trans hx175_0)
                                                                        rw [hv175_0] at ge175_0
                                                                        have HL175_0 := Aside0.mk (show Kd.R (Kd.int .i64) 3 _ _ _ _ (rd_L2 x8_3 x11_2) from ge175_0)
                                                                        clear hv175_0 ge175_0
                                                                        have HX175_0 := Aside0.mk hx175_0
                                                                        clear hcc175 hce175
                                                                        (first | simp only [add_plain] at hx175_0 | simp only [add_at] at hx175_0 | simp only [Addr.add, Nat.zero_add] at hx175_0 | skip)
                                                                        have HR175_0 := Aside0.mk hi175_0
                                                                        have HC175_0 := Aside0.mk hl175_0
                                                                        clear hi175_0 hl175_0
                                                                        replace p175 := eq_true p175
                                                                        replace q175 := eq_true q175
                                                                        have p176 : 0 ≤ (x11_2 : Int) := of_decide_eq_true (by first | (with_reducible assumption) | assumption)
                                                                        have q176 : x11_2 < (l0.length : Int) := of_decide_eq_true (by first | (with_reducible assumption) | assumption)
                                                                        obtain ⟨ad176, e176, hx176_0⟩ := Kd.at_int HR0.out x11_2 p176 q176
                                                                        have hw176_0 := hx176_0
                                                                        obtain rfl : ad174 = ad176 := (by injection e176)
                                                                        (try replace hx176_0 := (HB.out.cell (World.block_lt_of_cell? w _ hx176_0)).trans hx176_0)
                                                                        replace p176 := eq_true p176
                                                                        replace q176 := eq_true q176
                                                                        have p177 : 0 ≤ ((ji61) : Int) := of_decide_eq_true (by first | (with_reducible assumption) | assumption)
                                                                        have q177 : (ji61) < ((rd_L2 x8_3 x11_2).length : Int) := of_decide_eq_true (by first | (with_reducible assumption) | assumption)
                                                                        obtain ⟨ad177, e177, hx177_0⟩ := Kd.at_int (by repeat (first | (with_reducible exact HR175_0.out) | (with_reducible refine Kd.C_alloc ?_ _) | (with_reducible refine Kd.C_drewN ?_ _) | (with_reducible refine Kd.C_drew ?_) | exact HR175_0.out)) (ji61) p177 q177
                                                                        cases e177
                                                                        replace p177 := eq_true p177
                                                                        replace q177 := eq_true q177
                                                                        have p178 : 0 ≤ (x11_2 : Int) := of_decide_eq_true (by first | (with_reducible assumption) | assumption)
                                                                        have q178 : x11_2 < (l1.length : Int) := of_decide_eq_true (by first | (with_reducible assumption) | assumption)
                                                                        obtain ⟨ad178, e178, hx178_0⟩ := Kd.at_int HR1.out x11_2 p178 q178
                                                                        have hw178_0 := hx178_0
                                                                        cases e178
                                                                        (try replace hx178_0 := (HB.out.cell (World.block_lt_of_cell? w _ hx178_0)).trans hx178_0)
                                                                        replace p178 := eq_true p178
                                                                        replace q178 := eq_true q178
                                                                        refine start_ (n := 26) (S := fun w' => w'.cell? (ad174.add (x11_2).toNat) = some (.int .i64 (rd l0 x11_2)) ∧ w'.cell? ⟨go28, (x11_2).toNat, none⟩ = some (.slice (some ad177) (rd_L2 x8_3 x11_2).length c175_0) ∧ w'.cell? (ad174.add (x11_2).toNat) = some (.int .i64 (rd l0 x11_2)) ∧ w'.cell? (ad177.add ((ji61)).toNat) = some (.int .i64 (rd (rd_L2 x8_3 x11_2) (ji61))) ∧ w'.cell? (ad178.add (x11_2).toNat) = some (.int .i64 (rd l1 x11_2))) (ds := []) #[false, false, false, false, false, false, false, false, false, false, false, false, false, false, false, false, false, false, false, false, false, false, false, false, false, false] (by kernel_rfl) rfl rfl ⟨((HB.out.cell (World.block_lt_of_cell? w _ hw174_0)).trans hw174_0), hx175_0, ((HB.out.cell (World.block_lt_of_cell? w _ hw176_0)).trans hw176_0), hx177_0, ((HB.out.cell (World.block_lt_of_cell? w _ hw178_0)).trans hw178_0)⟩ (fun hHeld => ?_); refine with_tabW impl_ChangeFrom.tab22 impl_ChangeFrom.bits22 (fun HT_ HW_ => ?_)
                                                                        generalize wr.drew = w74 at HO_8 HL168_0 HR168_0 HB HL175_0 HR175_0 HX175_0 hx174_0 hx175_0 hx176_0 hx177_0 hx178_0 hHeld ⊢
                                                                        refine pure_ (i := 0) (N := some 89) (v := ?_) (a' := ?_) #[true, false, false, false, false, false, false, false, false, false, false, false, false, false, false, false, false, false, false, false, false, false, false, false, false, false] rfl rfl (any_of HT_.out (by kernel_rfl)) (fun _ _ _ h => h) (Or.inl ⟨by rfl, ?_⟩) ?_ ?_
                                                                        rotate_left
                                                                        · intro w'
                                                                          go_simp
                                                                          with_reducible rfl
                                                                        rotate_left
                                                                        · simp only [Act.put, List.setIfInBounds_toArray, List.set_cons_zero, List.set_cons_succ, i64_w, i32_w]
                                                                          rfl
                                                                        refine pure_ (i := 1) (N := some 90) (v := ?_) (a' := ?_) #[true, true, false, false, false, false, false, false, false, false, false, false, false, false, false, false, false, false, false, false, false, false, false, false, false, false] rfl rfl (any_of HT_.out (by kernel_rfl)) (fun _ _ _ h => h) (Or.inl ⟨by rfl, ?_⟩) ?_ ?_
                                                                        rotate_left
                                                                        · intro w'
                                                                          go_simp
                                                                          with_reducible rfl
                                                                        rotate_left
                                                                        · simp only [Act.put, List.setIfInBounds_toArray, List.set_cons_zero, List.set_cons_succ, i64_w, i32_w]
                                                                          rfl
                                                                        refine pure_ (i := 2) (N := some 91) (v := ?_) (a' := ?_) #[true, true, true, false, false, false, false, false, false, false, false, false, false, false, false, false, false, false, false, false, false, false, false, false, false, false] rfl rfl (any_of HT_.out (by kernel_rfl)) (fun _ _ _ h => h) (Or.inl ⟨by rfl, ?_⟩) ?_ ?_
                                                                        rotate_left
                                                                        · intro w'
                                                                          go_simp
                                                                          with_reducible rfl
                                                                        rotate_left
                                                                        · simp only [Act.put, List.setIfInBounds_toArray, List.set_cons_zero, List.set_cons_succ, i64_w, i32_w]
                                                                          rfl
                                                                        refine pure_ (i := 3) (N := some 92) (v := ?_) (a' := ?_) #[true, true, true, true, false, false, false, false, false, false, false, false, false, false, false, false, false, false, false, false, false, false, false, false, false, false] rfl rfl (any_of HT_.out (by kernel_rfl)) (fun _ _ _ h => h) (Or.inl ⟨by rfl, ?_⟩) ?_ ?_
                                                                        rotate_left
                                                                        · intro w'
                                                                          go_simp
                                                                          with_reducible rfl
                                                                        rotate_left
                                                                        · simp only [Act.put, List.setIfInBounds_toArray, List.set_cons_zero, List.set_cons_succ, i64_w, i32_w]
                                                                          rfl
                                                                        refine take_ (i := 4) (N := some 93) (v := ?_) (a' := ?_) #[true, true, true, true, true, false, false, false, false, false, false, false, false, false, false, false, false, false, false, false, false, false, false, false, false, false] rfl rfl (take_ofW HT_.out HW_.out (by kernel_rfl)) (fun _ _ _ h => h) (Or.inl ⟨by rfl, ?_⟩) hHeld ?_ ?_
                                                                        rotate_left
                                                                        · rintro w' ⟨s0, s1, s2, s3, s4⟩
                                                                          go_simp
                                                                          with_reducible rfl
                                                                        rotate_left
                                                                        · simp only [Act.put, List.setIfInBounds_toArray, List.set_cons_zero, List.set_cons_succ, i64_w, i32_w]
                                                                          rfl
                                                                        refine pure_ (i := 5) (N := some 94) (v := ?_) (a' := ?_) #[true, true, true, true, true, true, false, false, false, false, false, false, false, false, false, false, false, false, false, false, false, false, false, false, false, false] rfl rfl (any_of HT_.out (by kernel_rfl)) (fun _ _ _ h => h) (Or.inl ⟨by rfl, ?_⟩) ?_ ?_
                                                                        rotate_left
                                                                        · intro w'
                                                                          go_simp
                                                                          with_reducible rfl
                                                                        rotate_left
                                                                        · simp only [Act.put, List.setIfInBounds_toArray, List.set_cons_zero, List.set_cons_succ, i64_w, i32_w]
                                                                          rfl
                                                                        refine pure_ (i := 6) (N := some 95) (v := ?_) (a' := ?_) #[true, true, true, true, true, true, true, false, false, false, false, false, false, false, false, false, false, false, false, false, false, false, false, false, false, false] rfl rfl (any_of HT_.out (by kernel_rfl)) (fun _ _ _ h => h) (Or.inl ⟨by rfl, ?_⟩) ?_ ?_
                                                                        rotate_left
                                                                        · intro w'
                                                                          go_simp
                                                                          with_reducible rfl
                                                                        rotate_left
                                                                        · simp only [Act.put, List.setIfInBounds_toArray, List.set_cons_zero, List.set_cons_succ, i64_w, i32_w]
                                                                          rfl
                                                                        refine pure_ (i := 7) (N := some 96) (v := ?_) (a' := ?_) #[true, true, true, true, true, true, true, true, false, false, false, false, false, false, false, false, false, false, false, false, false, false, false, false, false, false] rfl rfl (any_of HT_.out (by kernel_rfl)) (fun _ _ _ h => h) (Or.inl ⟨by rfl, ?_⟩) ?_ ?_
                                                                        rotate_left
                                                                        · intro w'
                                                                          go_simp
                                                                          with_reducible rfl
                                                                        rotate_left
                                                                        · simp only [Act.put, List.setIfInBounds_toArray, List.set_cons_zero, List.set_cons_succ, i64_w, i32_w]
                                                                          rfl
                                                                        refine pure_ (i := 8) (N := some 97) (v := ?_) (a' := ?_) #[true, true, true, true, true, true, true, true, true, false, false, false, false, false, false, false, false, false, false, false, false, false, false, false, false, false] rfl rfl (any_of HT_.out (by kernel_rfl)) (fun _ _ _ h => h) (Or.inl ⟨by rfl, ?_⟩) ?_ ?_
                                                                        rotate_left
                                                                        · intro w'
                                                                          go_simp
                                                                          with_reducible rfl
                                                                        rotate_left
                                                                        · simp only [Act.put, List.setIfInBounds_toArray, List.set_cons_zero, List.set_cons_succ, i64_w, i32_w]
                                                                          rfl
                                                                        refine pure_ (i := 9) (N := some 98) (v := ?_) (a' := ?_) #[true, true, true, true, true, true, true, true, true, true, false, false, false, false, false, false, false, false, false, false, false, false, false, false, false, false] rfl rfl (any_of HT_.out (by kernel_rfl)) (fun _ _ _ h => h) (Or.inl ⟨by rfl, ?_⟩) ?_ ?_
                                                                        rotate_left
                                                                        · intro w'
                                                                          go_simp
                                                                          with_reducible rfl
                                                                        rotate_left
                                                                        · simp only [Act.put, List.setIfInBounds_toArray, List.set_cons_zero, List.set_cons_succ, i64_w, i32_w]
                                                                          rfl
                                                                        refine pure_ (i := 11) (N := some 100) (v := ?_) (a' := ?_) #[true, true, true, true, true, true, true, true, true, true, false, true, false, false, false, false, false, false, false, false, false, false, false, false, false, false] rfl rfl (any_of HT_.out (by kernel_rfl)) (fun _ _ _ h => h) (Or.inl ⟨by rfl, ?_⟩) ?_ ?_
                                                                        rotate_left
                                                                        · intro w'
                                                                          go_simp
                                                                          with_reducible rfl
                                                                        rotate_left
                                                                        · simp only [Act.put, List.setIfInBounds_toArray, List.set_cons_zero, List.set_cons_succ, i64_w, i32_w]
                                                                          rfl
                                                                        refine pure_ (i := 12) (N := some 101) (v := ?_) (a' := ?_) #[true, true, true, true, true, true, true, true, true, true, false, true, true, false, false, false, false, false, false, false, false, false, false, false, false, false] rfl rfl (any_of HT_.out (by kernel_rfl)) (fun _ _ _ h => h) (Or.inl ⟨by rfl, ?_⟩) ?_ ?_
                                                                        rotate_left
                                                                        · intro w'
                                                                          go_simp
                                                                          with_reducible rfl
                                                                        rotate_left
                                                                        · simp only [Act.put, List.setIfInBounds_toArray, List.set_cons_zero, List.set_cons_succ, i64_w, i32_w]
                                                                          rfl
                                                                        refine pure_ (i := 13) (N := some 102) (v := ?_) (a' := ?_) #[true, true, true, true, true, true, true, true, true, true, false, true, true, true, false, false, false, false, false, false, false, false, false, false, false, false] rfl rfl (any_of HT_.out (by kernel_rfl)) (fun _ _ _ h => h) (Or.inl ⟨by rfl, ?_⟩) ?_ ?_
                                                                        rotate_left
                                                                        · intro w'
                                                                          go_simp
                                                                          with_reducible rfl
                                                                        rotate_left
                                                                        · simp only [Act.put, List.setIfInBounds_toArray, List.set_cons_zero, List.set_cons_succ, i64_w, i32_w]
                                                                          rfl
                                                                        refine pure_ (i := 14) (N := some 103) (v := ?_) (a' := ?_) #[true, true, true, true, true, true, true, true, true, true, false, true, true, true, true, false, false, false, false, false, false, false, false, false, false, false] rfl rfl (any_of HT_.out (by kernel_rfl)) (fun _ _ _ h => h) (Or.inl ⟨by rfl, ?_⟩) ?_ ?_
                                                                        rotate_left
                                                                        · intro w'
                                                                          go_simp
                                                                          with_reducible rfl
                                                                        rotate_left
                                                                        · simp only [Act.put, List.setIfInBounds_toArray, List.set_cons_zero, List.set_cons_succ, i64_w, i32_w]
                                                                          rfl
                                                                        refine pure_ (i := 19) (N := some 108) (v := ?_) (a' := ?_) #[true, true, true, true, true, true, true, true, true, true, false, true, true, true, true, false, false, false, false, true, false, false, false, false, false, false] rfl rfl (any_of HT_.out (by kernel_rfl)) (fun _ _ _ h => h) (Or.inl ⟨by rfl, ?_⟩) ?_ ?_
                                                                        rotate_left
                                                                        · intro w'
                                                                          go_simp
                                                                          with_reducible rfl
                                                                        rotate_left
                                                                        · simp only [Act.put, List.setIfInBounds_toArray, List.set_cons_zero, List.set_cons_succ, i64_w, i32_w]
                                                                          rfl
                                                                        refine pure_ (i := 20) (N := some 109) (v := ?_) (a' := ?_) #[true, true, true, true, true, true, true, true, true, true, false, true, true, true, true, false, false, false, false, true, true, false, false, false, false, false] rfl rfl (any_of HT_.out (by kernel_rfl)) (fun _ _ _ h => h) (Or.inl ⟨by rfl, ?_⟩) ?_ ?_
                                                                        rotate_left
                                                                        · intro w'
                                                                          go_simp
                                                                          with_reducible rfl
                                                                        rotate_left
                                                                        · simp only [Act.put, List.setIfInBounds_toArray, List.set_cons_zero, List.set_cons_succ, i64_w, i32_w]
                                                                          rfl
                                                                        refine pure_ (i := 21) (N := some 110) (v := ?_) (a' := ?_) #[true, true, true, true, true, true, true, true, true, true, false, true, true, true, true, false, false, false, false, true, true, true, false, false, false, false] rfl rfl (any_of HT_.out (by kernel_rfl)) (fun _ _ _ h => h) (Or.inl ⟨by rfl, ?_⟩) ?_ ?_
                                                                        rotate_left
                                                                        · intro w'
                                                                          go_simp
                                                                          with_reducible rfl
                                                                        rotate_left
                                                                        · simp only [Act.put, List.setIfInBounds_toArray, List.set_cons_zero, List.set_cons_succ, i64_w, i32_w]
                                                                          rfl
                                                                        refine take_ (i := 10) (N := some 99) (v := ?_) (a' := ?_) #[true, true, true, true, true, true, true, true, true, true, true, true, true, true, true, false, false, false, false, true, true, true, false, false, false, false] rfl rfl (take_ofW HT_.out HW_.out (by kernel_rfl)) (fun _ _ _ h => h) (Or.inl ⟨by rfl, ?_⟩) hHeld ?_ ?_
                                                                        rotate_left
                                                                        · rintro w' ⟨s0, s1, s2, s3, s4⟩
                                                                          go_simp
                                                                          with_reducible rfl
                                                                        rotate_left
                                                                        · simp only [Act.put, List.setIfInBounds_toArray, List.set_cons_zero, List.set_cons_succ, i64_w, i32_w]
                                                                          rfl
                                                                        refine take_ (i := 15) (N := some 104) (v := ?_) (a' := ?_) #[true, true, true, true, true, true, true, true, true, true, true, true, true, true, true, true, false, false, false, true, true, true, false, false, false, false] rfl rfl (take_ofW HT_.out HW_.out (by kernel_rfl)) (fun _ _ _ h => h) (Or.inl ⟨by rfl, ?_⟩) hHeld ?_ ?_
                                                                        rotate_left
                                                                        · rintro w' ⟨s0, s1, s2, s3, s4⟩
                                                                          go_simp
                                                                          with_reducible rfl
                                                                        rotate_left
                                                                        · simp only [Act.put, List.setIfInBounds_toArray, List.set_cons_zero, List.set_cons_succ, i64_w, i32_w]
                                                                          rfl
                                                                        refine pure_ (i := 16) (N := some 105) (v := ?_) (a' := ?_) #[true, true, true, true, true, true, true, true, true, true, true, true, true, true, true, true, true, false, false, true, true, true, false, false, false, false] rfl rfl (any_of HT_.out (by kernel_rfl)) (fun _ _ _ h => h) (Or.inl ⟨by rfl, ?_⟩) ?_ ?_
                                                                        rotate_left
                                                                        · intro w'
                                                                          go_simp
                                                                          with_reducible rfl
                                                                        rotate_left
                                                                        · simp only [Act.put, List.setIfInBounds_toArray, List.set_cons_zero, List.set_cons_succ, i64_w, i32_w]
                                                                          rfl
                                                                        refine pure_ (i := 17) (N := some 106) (v := ?_) (a' := ?_) #[true, true, true, true, true, true, true, true, true, true, true, true, true, true, true, true, true, true, false, true, true, true, false, false, false, false] rfl rfl (any_of HT_.out (by kernel_rfl)) (fun _ _ _ h => h) (Or.inl ⟨by rfl, ?_⟩) ?_ ?_
                                                                        rotate_left
                                                                        · intro w'
                                                                          go_simp
                                                                          with_reducible rfl
                                                                        rotate_left
                                                                        · simp only [Act.put, List.setIfInBounds_toArray, List.set_cons_zero, List.set_cons_succ, i64_w, i32_w]
                                                                          rfl
                                                                        refine take_ (i := 18) (N := some 107) (v := ?_) (a' := ?_) #[true, true, true, true, true, true, true, true, true, true, true, true, true, true, true, true, true, true, true, true, true, true, false, false, false, false] rfl rfl (take_ofW HT_.out HW_.out (by kernel_rfl)) (fun _ _ _ h => h) (Or.inl ⟨by rfl, ?_⟩) hHeld ?_ ?_
                                                                        rotate_left
                                                                        · rintro w' ⟨s0, s1, s2, s3, s4⟩
                                                                          go_simp
                                                                          with_reducible rfl
                                                                        rotate_left
                                                                        · simp only [Act.put, List.setIfInBounds_toArray, List.set_cons_zero, List.set_cons_succ, i64_w, i32_w]
                                                                          rfl
                                                                        refine take_ (i := 22) (N := some 111) (v := ?_) (a' := ?_) #[true, true, true, true, true, true, true, true, true, true, true, true, true, true, true, true, true, true, true, true, true, true, true, false, false, false] rfl rfl (take_ofW HT_.out HW_.out (by kernel_rfl)) (fun _ _ _ h => h) (Or.inl ⟨by rfl, ?_⟩) hHeld ?_ ?_
                                                                        rotate_left
                                                                        · rintro w' ⟨s0, s1, s2, s3, s4⟩
                                                                          go_simp
                                                                          with_reducible rfl
                                                                        rotate_left
                                                                        · simp only [Act.put, List.setIfInBounds_toArray, List.set_cons_zero, List.set_cons_succ, i64_w, i32_w]
                                                                          rfl
                                                                        refine pure_ (i := 23) (N := some 112) (v := ?_) (a' := ?_) #[true, true, true, true, true, true, true, true, true, true, true, true, true, true, true, true, true, true, true, true, true, true, true, true, false, false] rfl rfl (any_of HT_.out (by kernel_rfl)) (fun _ _ _ h => h) (Or.inl ⟨by rfl, ?_⟩) ?_ ?_
                                                                        rotate_left
                                                                        · intro w'
                                                                          go_simp
                                                                          with_reducible rfl
                                                                        rotate_left
                                                                        · simp only [Act.put, List.setIfInBounds_toArray, List.set_cons_zero, List.set_cons_succ, i64_w, i32_w]
                                                                          rfl
                                                                        refine pure_ (i := 24) (N := some 113) (v := ?_) (a' := ?_) #[true, true, true, true, true, true, true, true, true, true, true, true, true, true, true, true, true, true, true, true, true, true, true, true, true, false] rfl rfl (any_of HT_.out (by kernel_rfl)) (fun _ _ _ h => h) (Or.inl ⟨by rfl, ?_⟩) ?_ ?_
                                                                        rotate_left
                                                                        · intro w'
                                                                          go_simp
                                                                          with_reducible rfl
                                                                        rotate_left
                                                                        · simp only [Act.put, List.setIfInBounds_toArray, List.set_cons_zero, List.set_cons_succ, i64_w, i32_w]
                                                                          rfl
                                                                        refine pure_ (i := 25) (N := some 88) (v := ?_) (a' := ?_) #[true, true, true, true, true, true, true, true, true, true, true, true, true, true, true, true, true, true, true, true, true, true, true, true, true, true] rfl rfl (any_of HT_.out (by kernel_rfl)) (fun _ _ _ h => h) (Or.inl ⟨by rfl, ?_⟩) ?_ ?_
                                                                        rotate_left
                                                                        · intro w'
                                                                          go_simp
                                                                          with_reducible rfl
                                                                        rotate_left
                                                                        · simp only [Act.put, List.setIfInBounds_toArray, List.set_cons_zero, List.set_cons_succ, i64_w, i32_w]
                                                                          rfl
                                                                        refine done_ (done_of HT_.out (by kernel_rfl)) ?_
                                                                        have p186 : 0 ≤ (x11_2 : Int) := of_decide_eq_true (by first | (with_reducible assumption) | assumption)
                                                                        have q186 : x11_2 < (x8_3.length : Int) := of_decide_eq_true (by first | (with_reducible assumption) | assumption)
                                                                        obtain ⟨ad186, A186_0, c186_0, e186, hx186_0, hl186_0, hi186_0⟩ := at_L2 (Kd.S_reads' HO_8.out).2.2 x11_2 p186 q186
                                                                        obtain rfl : (⟨go28, 0, none⟩ : Addr) = ad186 := (by injection e186)
                                                                        obtain ⟨ce186, hce186, hMe186, hcc186⟩ := Kd.S_get HO_8.out [] x11_2 p186 (by first | exact q186 | exact of_decide_eq_true (by first | (with_reducible assumption) | assumption) | (have e_ := (Kd.S_reads' HO_8.out).1; omega))
                                                                        obtain ⟨ve186_0, rfl, ge186_0⟩ := hMe186
                                                                        have hv186_0 := hcc186 0 _ rfl
                                                                        rw [Nat.add_zero, show ((Kd.slice 3 (Kd.int .i64))).sz = 1 from rfl, Nat.mul_one] at hv186_0
                                                                        replace hv186_0 := Option.some.inj (hv186_0.symm.trans hx186_0)
                                                                        rw [hv186_0] at ge186_0
                                                                        have HL186_0 := Aside0.mk (show Kd.R (Kd.int .i64) 3 _ _ _ _ (rd_L2 x8_3 x11_2) from ge186_0)
                                                                        clear hv186_0 ge186_0
                                                                        have HX186_0 := Aside0.mk hx186_0
                                                                        clear hcc186 hce186
                                                                        (first | simp only [add_plain] at hx186_0 | simp only [add_at] at hx186_0 | simp only [Addr.add, Nat.zero_add] at hx186_0 | skip)
                                                                        have HR186_0 := Aside0.mk hi186_0
                                                                        have HC186_0 := Aside0.mk hl186_0
                                                                        clear hi186_0 hl186_0
                                                                        replace p186 := eq_true p186
                                                                        replace q186 := eq_true q186
                                                                        have ea_ := Option.some.inj (hx175_0.symm.trans hx186_0)
                                                                        injection ea_ with ea_ en_ ec_
                                                                        subst ea_
                                                                        subst ec_
                                                                        clear en_
                                                                        have p73 : 0 ≤ (x63_3 : Int) := of_decide_eq_true (by first | (with_reducible assumption) | assumption)
                                                                        have q73 : (x63_3 : Int) < (((rd_L2 x8_3 x11_2).length : Int) : Int) := of_decide_eq_true (by first | (with_reducible assumption) | assumption)
                                                                        obtain ⟨go73, co73, eo73, gb73, gl73, cl73, HG73⟩ := Kd.R_form HL186_0.out (by omega)
                                                                        (first | cases eo73 | (injection eo73 with ea_ en_ ec_; (first | subst ea_ | (injection ea_ with ea_; subst ea_)); subst ec_; clear en_))
                                                                        have GB73 := Aside0.mk gb73
                                                                        have GG73 := Aside0.mk HG73
                                                                        clear gb73 gl73 HG73
                                                                        (first | simp only [add_plain] at hx177_0 | skip)
                                                                        obtain ⟨hx73_0, hf73_0⟩ := Kd.R_celln 0 HL186_0.out (x63_3 : Int) p73 q73
                                                                        replace p73 := eq_true p73
                                                                        replace q73 := eq_true q73
                                                                        have hq75 : (x11_2 : Int) < (x8_3.length : Int) := (by have h_ : (x11_2 : Int) < ((x8_3.length : Int) : Int) := of_decide_eq_true (by first | (with_reducible assumption) | assumption); first | exact h_ | (have e_ := (Kd.S_reads' HO_8.out).1; omega) | simpa only [List.length_set, List.length_set] using h_)
                                                                        obtain ⟨oki75, ce75, hcl75, hM75, hcc75, hok75, hbk75⟩ := Kd.S_borrow HO_8.out [] (x11_2 : Int) (of_decide_eq_true (by first | (with_reducible assumption) | assumption)) hq75
                                                                        obtain ⟨ve75_0, rfl, ge75_0⟩ := hM75
                                                                        have hv75 := hcc75 0 _ rfl
                                                                        rw [Nat.add_zero, show ((Kd.slice 3 (Kd.int .i64))).sz = 1 from rfl, Nat.mul_one] at hv75
                                                                        replace hv75 := Option.some.inj (hv75.symm.trans HX186_0.out)
                                                                        subst hv75
                                                                        (try clear hcc75); (try clear hcl75)
                                                                        replace ge75_0 := (show Kd.R (Kd.int .i64) 3 _ _ _ _ (rd_L2 x8_3 x11_2) from ge75_0)
                                                                        have HP75 := Kd.R_putg ge75_0 (x63_3 : Int) 1001
                                                                        try go_wp2_with (first | ((with_reducible refine gate_store (t := 3) (p := 71) rfl ?_); refine store_event (t := 3) (p := 71) (v := ?vo_w76) (w1 := (w74.setCell ⟨go73, (x63_3 : Int).toNat, none⟩ (.int .i64 1001))) ?hg ?ho ?hn ?hr ?_; (case ho => rfl); (case hg => rfl); (case hn => rfl); (case hr => first | (go_simp; done) | (go_simp; rfl)); intro w76 hw; have hg : w74.grownBy w76 (some go73) := (by rw [hw]; exact HP75.2); have hz_ : Kd.R (Kd.int .i64) 3 w76 w.heap.size oki75 (.slice (some ⟨go73, 0, none⟩) (rd_L2 x8_3 x11_2).length c175_0) y187 := (by rw [hw, Ny187.out]; exact HP75.1); have hp_ : Kd.S (Kd.slice 3 (Kd.int .i64)) 22 w76 w.heap.size (fun _ => True) (.slice (some ⟨go28, 0, none⟩) x8_3.length co28) y189 := (by rw [Ny189.out]; exact hbk75 hg (fun k_ e_ => by injection e_ with e_; subst e_; exact ge75_0.1 _ rfl) (Kd.M_row hz_)); have hm_ := Kd.R_mono hz_ hok75; clear HP75 hbk75; have n0_ := Aside0.mk (hp_); have n1_ := Aside0.mk ((by rw [hw]; exact below_set (HB.out) GB73.out : Below w.heap.size w w76)); have n2_ := Aside0.mk (hm_); have n3_ := Aside0.mk ((Kd.R_reads' hm_).2.1); clear HO_8; clear HB; clear HL168_0; clear HL175_0; clear HL186_0; have HO_8 := n0_; have HB := n1_; have HL206 := n2_; have HC188 := n3_; clear n0_ n1_ n2_ n3_; clear hg hw hp_ hz_ hm_ hok75))
                                                                        (try simp only [← hl8_3])
                                                                        go_roundg k3
                                                                        case measure => have := HK1.out; have := HK2.out; have := HK3.out; omega
                                                                        case rel => exact ⟨(y189), (wrap64 (x63_3 + 1)), (by first | rfl | (simp; done) | (simp [*]; done)), H', ⟨by have := HK1.out; have := HK2.out; have := HK3.out; omega⟩, ⟨by (try simp only [hl9_1]); (try simp only [hl8_2]); (try simp only [hl8_3]); (with_reducible repeat (first | apply Kd.S_alloc | apply Kd.S_drewN | apply Kd.S_drew)); exact HO_8.out⟩, ⟨by repeat (first | (with_reducible first | exact HB.out | apply below_alloc | apply pw_below_drewN | apply below_drew1) | exact HB.out)⟩⟩
                                                                      · rw [if_neg c72] at H
                                                                        exact absurd H (by simp)
                                                                  · rw [if_neg c64] at H
                                                                    exact absurd H (by simp)
                                                                · rw [if_neg c63] at H
                                                                  exact absurd H (by simp)
                                                              · rw [if_neg c62] at H
                                                                exact absurd H (by simp)
                                                            · rw [if_neg c60] at H
                                                              exact absurd H (by simp)
                                                          · rw [if_neg c59] at H
                                                            have c59b0 : decide ((rd l0 x11_2) ≤ x63_3) = false := decide_eq_false c59
                                                            clear c59
                                                            by_cases c77 : x11_2 < (x8_3.length : Int)
                                                            · rw [if_pos c77] at H
                                                              have c77b0 : decide (x11_2 < (x8_3.length : Int)) = true := decide_eq_true c77
                                                              have c77b0x := c77b0
                                                              (try simp only [hl9_1, hl8_2, hl8_3] at c77b0x)
                                                              clear c77
                                                              by_cases c78 : x63_3 < ((rd_L2 x8_3 x11_2).length : Int)
                                                              · rw [if_pos c78] at H
                                                                have c78b0 : decide (x63_3 < ((rd_L2 x8_3 x11_2).length : Int)) = true := decide_eq_true c78
                                                                clear c78
                                                                obtain ⟨y191, hy191⟩ : ∃ y_ : List Int, y_ = ((rd_L2 x8_3 x11_2).set (x63_3 : Int).toNat 1001) := ⟨_, rfl⟩
                                                                replace H : (impl_ChangeFrom.l2 k3 l0 l1 a2 (x8_3.set (x11_2 : Int).toNat y191) x11_2 ((rd_L2 y166 x11_2).length : Int) (wrap64 (x63_3 + 1))) = some (r1, r2) := by first | (rw [hy191]; with_reducible exact H) | (have H2_ := (Option.bind_some _ _).symm.trans H; rw [hy191]; with_reducible exact H2_) | (have H2_ := (Option.bind_some _ _).symm.trans H; with_reducible exact H2_) | with_reducible exact H | (rw [hy191]; exact H) | exact H
                                                                have Ny191 := Aside0.mk hy191
                                                                clear hy191
                                                                obtain ⟨y193, hy193⟩ : ∃ y_ : List (List Int), y_ = (x8_3.set (x11_2 : Int).toNat y191) := ⟨_, rfl⟩
                                                                replace H : (impl_ChangeFrom.l2 k3 l0 l1 a2 y193 x11_2 ((rd_L2 y166 x11_2).length : Int) (wrap64 (x63_3 + 1))) = some (r1, r2) := by first | (rw [hy193]; with_reducible exact H) | (have H2_ := (Option.bind_some _ _).symm.trans H; rw [hy193]; with_reducible exact H2_) | (have H2_ := (Option.bind_some _ _).symm.trans H; with_reducible exact H2_) | with_reducible exact H | (rw [hy193]; exact H) | exact H
                                                                have Ny193 := Aside0.mk hy193
                                                                clear hy193
                                                                have H' := Aside0.mk H
                                                                clear H
                                                                have p168 : 0 ≤ ((ji45) : Int) := of_decide_eq_true (by first | (with_reducible assumption) | assumption)
                                                                have q168 : (ji45) < (x8_3.length : Int) := of_decide_eq_true (by first | (with_reducible assumption) | assumption)
                                                                obtain ⟨ad168, A168_0, c168_0, e168, hx168_0, hl168_0, hi168_0⟩ := at_L2 (Kd.S_reads' HO_8.out).2.2 (ji45) p168 q168
                                                                obtain rfl : (⟨go28, 0, none⟩ : Addr) = ad168 := (by injection e168)
                                                                obtain ⟨ce168, hce168, hMe168, hcc168⟩ := Kd.S_get HO_8.out [] (ji45) p168 (by first | exact q168 | exact of_decide_eq_true (by first | (with_reducible assumption) | assumption) | (have e_ := (Kd.S_reads' HO_8.out).1; omega))
                                                                obtain ⟨ve168_0, rfl, ge168_0⟩ := hMe168
                                                                have hv168_0 := hcc168 0 _ rfl
                                                                rw [Nat.add_zero, show ((Kd.slice 3 (Kd.int .i64))).sz = 1 from rfl, Nat.mul_one] at hv168_0
                                                                replace hv168_0 := Option.some.inj (hv168_0.symm.trans hx168_0)
                                                                rw [hv168_0] at ge168_0
                                                                have HL168_0 := Aside0.mk (show Kd.R (Kd.int .i64) 3 _ _ _ _ (rd_L2 x8_3 (ji45)) from ge168_0)
                                                                clear hv168_0 ge168_0
                                                                have HX168_0 := Aside0.mk hx168_0
                                                                clear hcc168 hce168
                                                                (first | simp only [add_plain] at hx168_0 | simp only [add_at] at hx168_0 | simp only [Addr.add, Nat.zero_add] at hx168_0 | skip)
                                                                have HR168_0 := Aside0.mk hi168_0
                                                                have HC168_0 := Aside0.mk hl168_0
                                                                clear hi168_0 hl168_0
                                                                replace p168 := eq_true p168
                                                                replace q168 := eq_true q168
                                                                have p169 : 0 ≤ (x63_3 : Int) := of_decide_eq_true (by first | (with_reducible assumption) | assumption)
                                                                have q169 : x63_3 < ((rd_L2 x8_3 (ji45)).length : Int) := of_decide_eq_true (by first | (with_reducible assumption) | assumption)
                                                                obtain ⟨ad169, e169, hx169_0⟩ := Kd.at_int (by repeat (first | (with_reducible exact HR168_0.out) | (with_reducible refine Kd.C_alloc ?_ _) | (with_reducible refine Kd.C_drewN ?_ _) | (with_reducible refine Kd.C_drew ?_) | exact HR168_0.out)) x63_3 p169 q169
                                                                cases e169
                                                                replace p169 := eq_true p169
                                                                replace q169 := eq_true q169
                                                                try go_wp2
                                                                have n0_ := Aside0.mk (Kd.S_drew HO_8.out)
                                                                have n1_ := Aside0.mk (Kd.R_drew HL168_0.out)
                                                                have n2_ := Aside0.mk (Kd.C_drew HR168_0.out)
                                                                have n3_ := Aside0.mk (below_drew1 HB.out)
                                                                clear HO_8
                                                                clear HL168_0
                                                                clear HR168_0
                                                                clear HB
                                                                have HO_8 := n0_
                                                                have HL168_0 := n1_
                                                                have HR168_0 := n2_
                                                                have HB := n3_
                                                                clear n0_ n1_ n2_ n3_
                                                                have p174 : 0 ≤ (x11_2 : Int) := of_decide_eq_true (by first | (with_reducible assumption) | assumption)
                                                                have q174 : x11_2 < (l0.length : Int) := of_decide_eq_true (by first | (with_reducible assumption) | assumption)
                                                                obtain ⟨ad174, e174, hx174_0⟩ := Kd.at_int HR0.out x11_2 p174 q174
                                                                have hw174_0 := hx174_0
                                                                cases e174
                                                                (try replace hx174_0 := (HB.out.cell (World.block_lt_of_cell? w _ hx174_0)).trans hx174_0)
                                                                replace p174 := eq_true p174
                                                                replace q174 := eq_true q174
                                                                refine start_ (n := 26) (S := fun w' => w'.cell? (ad174.add (x11_2).toNat) = some (.int .i64 (rd l0 x11_2))) (ds := []) #[false, false, false, false, false, false, false, false, false, false, false, false, false, false, false, false, false, false, false, false, false, false, false, false, false, false] (by kernel_rfl) rfl rfl (((HB.out.cell (World.block_lt_of_cell? w _ hw174_0)).trans hw174_0)) (fun hHeld => ?_); refine with_tabW impl_ChangeFrom.tab22 impl_ChangeFrom.bits22 (fun HT_ HW_ => ?_)
                                                                generalize wr.drew = w80 at HO_8 HL168_0 HR168_0 HB hx174_0 hHeld ⊢
                                                                refine pure_ (i := 0) (N := some 89) (v := ?_) (a' := ?_) #[true, false, false, false, false, false, false, false, false, false, false, false, false, false, false, false, false, false, false, false, false, false, false, false, false, false] rfl rfl (any_of HT_.out (by kernel_rfl)) (fun _ _ _ h => h) (Or.inl ⟨by rfl, ?_⟩) ?_ ?_
                                                                rotate_left
                                                                · intro w'
                                                                  go_simp
                                                                  with_reducible rfl
                                                                rotate_left
                                                                · simp only [Act.put, List.setIfInBounds_toArray, List.set_cons_zero, List.set_cons_succ, i64_w, i32_w]
                                                                  rfl
                                                                refine pure_ (i := 1) (N := some 90) (v := ?_) (a' := ?_) #[true, true, false, false, false, false, false, false, false, false, false, false, false, false, false, false, false, false, false, false, false, false, false, false, false, false] rfl rfl (any_of HT_.out (by kernel_rfl)) (fun _ _ _ h => h) (Or.inl ⟨by rfl, ?_⟩) ?_ ?_
                                                                rotate_left
                                                                · intro w'
                                                                  go_simp
                                                                  with_reducible rfl
                                                                rotate_left
                                                                · simp only [Act.put, List.setIfInBounds_toArray, List.set_cons_zero, List.set_cons_succ, i64_w, i32_w]
                                                                  rfl
                                                                refine pure_ (i := 2) (N := some 91) (v := ?_) (a' := ?_) #[true, true, true, false, false, false, false, false, false, false, false, false, false, false, false, false, false, false, false, false, false, false, false, false, false, false] rfl rfl (any_of HT_.out (by kernel_rfl)) (fun _ _ _ h => h) (Or.inl ⟨by rfl, ?_⟩) ?_ ?_
                                                                rotate_left
                                                                · intro w'
                                                                  go_simp
                                                                  with_reducible rfl
                                                                rotate_left
                                                                · simp only [Act.put, List.setIfInBounds_toArray, List.set_cons_zero, List.set_cons_succ, i64_w, i32_w]
                                                                  rfl
                                                                refine pure_ (i := 3) (N := some 92) (v := ?_) (a' := ?_) #[true, true, true, true, false, false, false, false, false, false, false, false, false, false, false, false, false, false, false, false, false, false, false, false, false, false] rfl rfl (any_of HT_.out (by kernel_rfl)) (fun _ _ _ h => h) (Or.inl ⟨by rfl, ?_⟩) ?_ ?_
                                                                rotate_left
                                                                · intro w'
                                                                  go_simp
                                                                  with_reducible rfl
                                                                rotate_left
                                                                · simp only [Act.put, List.setIfInBounds_toArray, List.set_cons_zero, List.set_cons_succ, i64_w, i32_w]
                                                                  rfl
                                                                refine take_ (i := 4) (N := some 93) (v := ?_) (a' := ?_) #[true, true, true, true, true, false, false, false, false, false, false, false, false, false, false, false, false, false, false, false, false, false, false, false, false, false] rfl rfl (take_ofW HT_.out HW_.out (by kernel_rfl)) (fun _ _ _ h => h) (Or.inl ⟨by rfl, ?_⟩) hHeld ?_ ?_
                                                                rotate_left
                                                                · intro w' s0
                                                                  go_simp
                                                                  with_reducible rfl
                                                                rotate_left
                                                                · simp only [Act.put, List.setIfInBounds_toArray, List.set_cons_zero, List.set_cons_succ, i64_w, i32_w]
                                                                  rfl
                                                                refine pure_ (i := 5) (N := some 94) (v := ?_) (a' := ?_) #[true, true, true, true, true, true, false, false, false, false, false, false, false, false, false, false, false, false, false, false, false, false, false, false, false, false] rfl rfl (any_of HT_.out (by kernel_rfl)) (fun _ _ _ h => h) (Or.inl ⟨by rfl, ?_⟩) ?_ ?_
                                                                rotate_left
                                                                · intro w'
                                                                  go_simp
                                                                  with_reducible rfl
                                                                rotate_left
                                                                · simp only [Act.put, List.setIfInBounds_toArray, List.set_cons_zero, List.set_cons_succ, i64_w, i32_w]
                                                                  rfl
                                                                refine pure_ (i := 6) (N := some 95) (v := ?_) (a' := ?_) #[true, true, true, true, true, true, true, false, false, false, false, false, false, false, false, false, false, false, false, false, false, false, false, false, false, false] rfl rfl (any_of HT_.out (by kernel_rfl)) (fun _ _ _ h => h) (Or.inl ⟨by rfl, ?_⟩) ?_ ?_
                                                                rotate_left
                                                                · intro w'
                                                                  go_simp
                                                                  with_reducible rfl
                                                                rotate_left
                                                                · simp only [Act.put, List.setIfInBounds_toArray, List.set_cons_zero, List.set_cons_succ, i64_w, i32_w]
                                                                  rfl
                                                                refine pure_ (i := 7) (N := some 96) (v := undef) (a' := ?_) #[true, true, true, true, true, true, true, true, false, false, false, false, false, false, false, false, false, false, false, false, false, false, false, false, false, false] rfl rfl (any_of HT_.out (by kernel_rfl)) (fun _ _ _ h => h) (Or.inr ⟨by rfl, rfl⟩) ?_ ?_
                                                                rotate_left
                                                                · simp only [Act.put, List.setIfInBounds_toArray, List.set_cons_zero, List.set_cons_succ, i64_w, i32_w]
                                                                  rfl
                                                                refine pure_ (i := 8) (N := some 97) (v := undef) (a' := ?_) #[true, true, true, true, true, true, true, true, true, false, false, false, false, false, false, false, false, false, false, false, false, false, false, false, false, false] rfl rfl (any_of HT_.out (by kernel_rfl)) (fun _ _ _ h => h) (Or.inr ⟨by rfl, rfl⟩) ?_ ?_
                                                                rotate_left
                                                                · simp only [Act.put, List.setIfInBounds_toArray, List.set_cons_zero, List.set_cons_succ, i64_w, i32_w]
                                                                  rfl
                                                                refine pure_ (i := 9) (N := some 98) (v := undef) (a' := ?_) #[true, true, true, true, true, true, true, true, true, true, false, false, false, false, false, false, false, false, false, false, false, false, false, false, false, false] rfl rfl (any_of HT_.out (by kernel_rfl)) (fun _ _ _ h => h) (Or.inr ⟨by rfl, rfl⟩) ?_ ?_
                                                                rotate_left
                                                                · simp only [Act.put, List.setIfInBounds_toArray, List.set_cons_zero, List.set_cons_succ, i64_w, i32_w]
                                                                  rfl
                                                                refine pure_ (i := 10) (N := some 99) (v := undef) (a' := ?_) #[true, true, true, true, true, true, true, true, true, true, true, false, false, false, false, false, false, false, false, false, false, false, false, false, false, false] rfl rfl (any_of HT_.out (by kernel_rfl)) (fun _ _ _ h => h) (Or.inr ⟨by rfl, rfl⟩) ?_ ?_
                                                                rotate_left
                                                                · simp only [Act.put, List.setIfInBounds_toArray, List.set_cons_zero, List.set_cons_succ, i64_w, i32_w]
                                                                  rfl
                                                                refine pure_ (i := 11) (N := some 100) (v := undef) (a' := ?_) #[true, true, true, true, true, true, true, true, true, true, true, true, false, false, false, false, false, false, false, false, false, false, false, false, false, false] rfl rfl (any_of HT_.out (by kernel_rfl)) (fun _ _ _ h => h) (Or.inr ⟨by rfl, rfl⟩) ?_ ?_
                                                                rotate_left
                                                                · simp only [Act.put, List.setIfInBounds_toArray, List.set_cons_zero, List.set_cons_succ, i64_w, i32_w]
                                                                  rfl
                                                                refine pure_ (i := 12) (N := some 101) (v := undef) (a' := ?_) #[true, true, true, true, true, true, true, true, true, true, true, true, true, false, false, false, false, false, false, false, false, false, false, false, false, false] rfl rfl (any_of HT_.out (by kernel_rfl)) (fun _ _ _ h => h) (Or.inr ⟨by rfl, rfl⟩) ?_ ?_
                                                                rotate_left
                                                                · simp only [Act.put, List.setIfInBounds_toArray, List.set_cons_zero, List.set_cons_succ, i64_w, i32_w]
                                                                  rfl
                                                                refine pure_ (i := 13) (N := some 102) (v := undef) (a' := ?_) #[true, true, true, true, true, true, true, true, true, true, true, true, true, true, false, false, false, false, false, false, false, false, false, false, false, false] rfl rfl (any_of HT_.out (by kernel_rfl)) (fun _ _ _ h => h) (Or.inr ⟨by rfl, rfl⟩) ?_ ?_
                                                                rotate_left
                                                                · simp only [Act.put, List.setIfInBounds_toArray, List.set_cons_zero, List.set_cons_succ, i64_w, i32_w]
                                                                  rfl
                                                                refine pure_ (i := 14) (N := some 103) (v := undef) (a' := ?_) #[true, true, true, true, true, true, true, true, true, true, true, true, true, true, true, false, false, false, false, false, false, false, false, false, false, false] rfl rfl (any_of HT_.out (by kernel_rfl)) (fun _ _ _ h => h) (Or.inr ⟨by rfl, rfl⟩) ?_ ?_
                                                                rotate_left
                                                                · simp only [Act.put, List.setIfInBounds_toArray, List.set_cons_zero, List.set_cons_succ, i64_w, i32_w]
                                                                  rfl
                                                                refine pure_ (i := 15) (N := some 104) (v := undef) (a' := ?_) #[true, true, true, true, true, true, true, true, true, true, true, true, true, true, true, true, false, false, false, false, false, false, false, false, false, false] rfl rfl (any_of HT_.out (by kernel_rfl)) (fun _ _ _ h => h) (Or.inr ⟨by rfl, rfl⟩) ?_ ?_
                                                                rotate_left
                                                                · simp only [Act.put, List.setIfInBounds_toArray, List.set_cons_zero, List.set_cons_succ, i64_w, i32_w]
                                                                  rfl
                                                                refine pure_ (i := 16) (N := some 105) (v := undef) (a' := ?_) #[true, true, true, true, true, true, true, true, true, true, true, true, true, true, true, true, true, false, false, false, false, false, false, false, false, false] rfl rfl (any_of HT_.out (by kernel_rfl)) (fun _ _ _ h => h) (Or.inr ⟨by rfl, rfl⟩) ?_ ?_
                                                                rotate_left
                                                                · simp only [Act.put, List.setIfInBounds_toArray, List.set_cons_zero, List.set_cons_succ, i64_w, i32_w]
                                                                  rfl
                                                                refine pure_ (i := 17) (N := some 106) (v := undef) (a' := ?_) #[true, true, true, true, true, true, true, true, true, true, true, true, true, true, true, true, true, true, false, false, false, false, false, false, false, false] rfl rfl (any_of HT_.out (by kernel_rfl)) (fun _ _ _ h => h) (Or.inr ⟨by rfl, rfl⟩) ?_ ?_
                                                                rotate_left
                                                                · simp only [Act.put, List.setIfInBounds_toArray, List.set_cons_zero, List.set_cons_succ, i64_w, i32_w]
                                                                  rfl
                                                                refine pure_ (i := 18) (N := some 107) (v := undef) (a' := ?_) #[true, true, true, true, true, true, true, true, true, true, true, true, true, true, true, true, true, true, true, false, false, false, false, false, false, false] rfl rfl (any_of HT_.out (by kernel_rfl)) (fun _ _ _ h => h) (Or.inr ⟨by rfl, rfl⟩) ?_ ?_
                                                                rotate_left
                                                                · simp only [Act.put, List.setIfInBounds_toArray, List.set_cons_zero, List.set_cons_succ, i64_w, i32_w]
                                                                  rfl
                                                                refine pure_ (i := 19) (N := some 108) (v := undef) (a' := ?_) #[true, true, true, true, true, true, true, true, true, true, true, true, true, true, true, true, true, true, true, true, false, false, false, false, false, false] rfl rfl (any_of HT_.out (by kernel_rfl)) (fun _ _ _ h => h) (Or.inr ⟨by rfl, rfl⟩) ?_ ?_
                                                                rotate_left
                                                                · simp only [Act.put, List.setIfInBounds_toArray, List.set_cons_zero, List.set_cons_succ, i64_w, i32_w]
                                                                  rfl
                                                                refine pure_ (i := 20) (N := some 109) (v := undef) (a' := ?_) #[true, true, true, true, true, true, true, true, true, true, true, true, true, true, true, true, true, true, true, true, true, false, false, false, false, false] rfl rfl (any_of HT_.out (by kernel_rfl)) (fun _ _ _ h => h) (Or.inr ⟨by rfl, rfl⟩) ?_ ?_
                                                                rotate_left
                                                                · simp only [Act.put, List.setIfInBounds_toArray, List.set_cons_zero, List.set_cons_succ, i64_w, i32_w]
                                                                  rfl
                                                                refine pure_ (i := 21) (N := some 110) (v := undef) (a' := ?_) #[true, true, true, true, true, true, true, true, true, true, true, true, true, true, true, true, true, true, true, true, true, true, false, false, false, false] rfl rfl (any_of HT_.out (by kernel_rfl)) (fun _ _ _ h => h) (Or.inr ⟨by rfl, rfl⟩) ?_ ?_
                                                                rotate_left
                                                                · simp only [Act.put, List.setIfInBounds_toArray, List.set_cons_zero, List.set_cons_succ, i64_w, i32_w]
                                                                  rfl
                                                                refine pure_ (i := 22) (N := some 111) (v := undef) (a' := ?_) #[true, true, true, true, true, true, true, true, true, true, true, true, true, true, true, true, true, true, true, true, true, true, true, false, false, false] rfl rfl (any_of HT_.out (by kernel_rfl)) (fun _ _ _ h => h) (Or.inr ⟨by rfl, rfl⟩) ?_ ?_
                                                                rotate_left
                                                                · simp only [Act.put, List.setIfInBounds_toArray, List.set_cons_zero, List.set_cons_succ, i64_w, i32_w]
                                                                  rfl
                                                                refine pure_ (i := 23) (N := some 112) (v := undef) (a' := ?_) #[true, true, true, true, true, true, true, true, true, true, true, true, true, true, true, true, true, true, true, true, true, true, true, true, false, false] rfl rfl (any_of HT_.out (by kernel_rfl)) (fun _ _ _ h => h) (Or.inr ⟨by rfl, rfl⟩) ?_ ?_
                                                                rotate_left
                                                                · simp only [Act.put, List.setIfInBounds_toArray, List.set_cons_zero, List.set_cons_succ, i64_w, i32_w]
                                                                  rfl
                                                                refine pure_ (i := 24) (N := some 113) (v := ?_) (a' := ?_) #[true, true, true, true, true, true, true, true, true, true, true, true, true, true, true, true, true, true, true, true, true, true, true, true, true, false] rfl rfl (any_of HT_.out (by kernel_rfl)) (fun _ _ _ h => h) (Or.inl ⟨by rfl, ?_⟩) ?_ ?_
                                                                rotate_left
                                                                · intro w'
                                                                  go_simp
                                                                  with_reducible rfl
                                                                rotate_left
                                                                · simp only [Act.put, List.setIfInBounds_toArray, List.set_cons_zero, List.set_cons_succ, i64_w, i32_w]
                                                                  rfl
                                                                refine pure_ (i := 25) (N := some 88) (v := ?_) (a' := ?_) #[true, true, true, true, true, true, true, true, true, true, true, true, true, true, true, true, true, true, true, true, true, true, true, true, true, true] rfl rfl (any_of HT_.out (by kernel_rfl)) (fun _ _ _ h => h) (Or.inl ⟨by rfl, ?_⟩) ?_ ?_
                                                                rotate_left
                                                                · intro w'
                                                                  go_simp
                                                                  with_reducible rfl
                                                                rotate_left
                                                                · simp only [Act.put, List.setIfInBounds_toArray, List.set_cons_zero, List.set_cons_succ, i64_w, i32_w]
                                                                  rfl
                                                                refine done_ (done_of HT_.out (by kernel_rfl)) ?_
                                                                have p190 : 0 ≤ (x11_2 : Int) := of_decide_eq_true (by first | (with_reducible assumption) | assumption)
                                                                have q190 : x11_2 < (x8_3.length : Int) := of_decide_eq_true (by first | (with_reducible assumption) | assumption)
                                                                obtain ⟨ad190, A190_0, c190_0, e190, hx190_0, hl190_0, hi190_0⟩ := at_L2 (Kd.S_reads' HO_8.out).2.2 x11_2 p190 q190
                                                                obtain rfl : (⟨go28, 0, none⟩ : Addr) = ad190 := (by injection e190)
                                                                obtain ⟨ce190, hce190, hMe190, hcc190⟩ := Kd.S_get HO_8.out [] x11_2 p190 (by first | exact q190 | exact of_decide_eq_true (by first | (with_reducible assumption) | assumption) | (have e_ := (Kd.S_reads' HO_8.out).1; omega))
                                                                obtain ⟨ve190_0, rfl, ge190_0⟩ := hMe190
                                                                have hv190_0 := hcc190 0 _ rfl
                                                                rw [Nat.add_zero, show ((Kd.slice 3 (Kd.int .i64))).sz = 1 from rfl, Nat.mul_one] at hv190_0
                                                                replace hv190_0 := Option.some.inj (hv190_0.symm.trans hx190_0)
                                                                rw [hv190_0] at ge190_0
                                                                have HL190_0 := Aside0.mk (show Kd.R (Kd.int .i64) 3 _ _ _ _ (rd_L2 x8_3 x11_2) from ge190_0)
                                                                clear hv190_0 ge190_0
                                                                have HX190_0 := Aside0.mk hx190_0
                                                                clear hcc190 hce190
                                                                (first | simp only [add_plain] at hx190_0 | simp only [add_at] at hx190_0 | simp only [Addr.add, Nat.zero_add] at hx190_0 | skip)
                                                                have HR190_0 := Aside0.mk hi190_0
                                                                have HC190_0 := Aside0.mk hl190_0
                                                                clear hi190_0 hl190_0
                                                                replace p190 := eq_true p190
                                                                replace q190 := eq_true q190
                                                                have p79 : 0 ≤ (x63_3 : Int) := of_decide_eq_true (by first | (with_reducible assumption) | assumption)
                                                                have q79 : (x63_3 : Int) < (((rd_L2 x8_3 x11_2).length : Int) : Int) := of_decide_eq_true (by first | (with_reducible assumption) | assumption)
                                                                obtain ⟨go79, co79, eo79, gb79, gl79, cl79, HG79⟩ := Kd.R_form HL190_0.out (by omega)
                                                                (first | cases eo79 | (injection eo79 with ea_ en_ ec_; (first | subst ea_ | (injection ea_ with ea_; subst ea_)); subst ec_; clear en_))
                                                                have GB79 := Aside0.mk gb79
                                                                have GG79 := Aside0.mk HG79
                                                                clear gb79 gl79 HG79
                                                                obtain ⟨hx79_0, hf79_0⟩ := Kd.R_celln 0 HL190_0.out (x63_3 : Int) p79 q79
                                                                replace p79 := eq_true p79
                                                                replace q79 := eq_true q79
                                                                have hq81 : (x11_2 : Int) < (x8_3.length : Int) := (by have h_ : (x11_2 : Int) < ((x8_3.length : Int) : Int) := of_decide_eq_true (by first | (with_reducible assumption) | assumption); first | exact h_ | (have e_ := (Kd.S_reads' HO_8.out).1; omega) | simpa only [List.length_set, List.length_set] using h_)
                                                                obtain ⟨oki81, ce81, hcl81, hM81, hcc81, hok81, hbk81⟩ := Kd.S_borrow HO_8.out [] (x11_2 : Int) (of_decide_eq_true (by first | (with_reducible assumption) | assumption)) hq81
                                                                obtain ⟨ve81_0, rfl, ge81_0⟩ := hM81
                                                                have hv81 := hcc81 0 _ rfl
                                                                rw [Nat.add_zero, show ((Kd.slice 3 (Kd.int .i64))).sz = 1 from rfl, Nat.mul_one] at hv81
                                                                replace hv81 := Option.some.inj (hv81.symm.trans HX190_0.out)
                                                                subst hv81
                                                                (try clear hcc81); (try clear hcl81)
                                                                replace ge81_0 := (show Kd.R (Kd.int .i64) 3 _ _ _ _ (rd_L2 x8_3 x11_2) from ge81_0)
                                                                have HP81 := Kd.R_putg ge81_0 (x63_3 : Int) 1001
                                                                try go_wp2_with (first | ((with_reducible refine gate_store (t := 3) (p := 71) rfl ?_); refine store_event (t := 3) (p := 71) (v := ?vo_w82) (w1 := (w80.setCell ⟨go79, (x63_3 : Int).toNat, none⟩ (.int .i64 1001))) ?hg ?ho ?hn ?hr ?_; (case ho => rfl); (case hg => rfl); (case hn => rfl); (case hr => first | (go_simp; done) | (go_simp; rfl)); intro w82 hw; have hg : w80.grownBy w82 (some go79) := (by rw [hw]; exact HP81.2); have hz_ : Kd.R (Kd.int .i64) 3 w82 w.heap.size oki81 (.slice (some ⟨go79, 0, none⟩) (rd_L2 x8_3 x11_2).length c190_0) y191 := (by rw [hw, Ny191.out]; exact HP81.1); have hp_ : Kd.S (Kd.slice 3 (Kd.int .i64)) 22 w82 w.heap.size (fun _ => True) (.slice (some ⟨go28, 0, none⟩) x8_3.length co28) y193 := (by rw [Ny193.out]; exact hbk81 hg (fun k_ e_ => by injection e_ with e_; subst e_; exact ge81_0.1 _ rfl) (Kd.M_row hz_)); have hm_ := Kd.R_mono hz_ hok81; clear HP81 hbk81; have n0_ := Aside0.mk (hp_); have n1_ := Aside0.mk ((by rw [hw]; exact below_set (HB.out) GB79.out : Below w.heap.size w w82)); have n2_ := Aside0.mk (hm_); have n3_ := Aside0.mk ((Kd.R_reads' hm_).2.1); clear HO_8; clear HB; clear HL168_0; clear HL190_0; have HO_8 := n0_; have HB := n1_; have HL207 := n2_; have HC192 := n3_; clear n0_ n1_ n2_ n3_; clear hg hw hp_ hz_ hm_ hok81))
                                                                (try simp only [← hl8_3])
                                                                go_roundg k3
                                                                case measure => have := HK1.out; have := HK2.out; have := HK3.out; omega
                                                                case rel => exact ⟨(y193), (wrap64 (x63_3 + 1)), (by first | rfl | (simp; done) | (simp [*]; done)), H', ⟨by have := HK1.out; have := HK2.out; have := HK3.out; omega⟩, ⟨by (try simp only [hl9_1]); (try simp only [hl8_2]); (try simp only [hl8_3]); (with_reducible repeat (first | apply Kd.S_alloc | apply Kd.S_drewN | apply Kd.S_drew)); exact HO_8.out⟩, ⟨by repeat (first | (with_reducible first | exact HB.out | apply below_alloc | apply pw_below_drewN | apply below_drew1) | exact HB.out)⟩⟩
                                                              · rw [if_neg c78] at H
                                                                exact absurd H (by simp)
                                                            · rw [if_neg c77] at H
                                                              exact absurd H (by simp)
                                                        · rw [if_neg c58] at H
                                                          exact absurd H (by simp)
                                                      · rw [if_neg c57] at H
                                                        exact absurd H (by simp)
                                                  · rw [if_neg c49] at H
                                                    exact absurd H (by simp)
                                                · rw [if_neg c48] at H
                                                  exact absurd H (by simp)
                                              · rw [if_neg c47] at H
                                                exact absurd H (by simp)
                                            · rw [if_neg c46] at H
                                              exact absurd H (by simp)
                                          · rw [if_neg c44] at H
                                            have c44b0 : decide (x63_3 < ((rd_L2 y166 x11_2).length : Int)) = false := decide_eq_false c44
                                            clear c44
                                            have H' := Aside0.mk H
                                            clear H
                                            go_wp2
                                            (try simp only [← hl8_2, ← hl8_3])
                                            go_roundg k3
                                            case measure => have := HK1.out; have := HK2.out; have := HK3.out; omega
                                            case rel => exact ⟨(x8_3), (wrap64 (x11_2 - 1)), (by first | rfl | (simp; done) | (simp [*]; done)), H', ⟨by have := HK1.out; have := HK2.out; have := HK3.out; omega⟩, ⟨by (try simp only [hl9_1]); (try simp only [hl8_2]); (try simp only [hl8_3]); (with_reducible repeat (first | apply Kd.S_alloc | apply Kd.S_drewN | apply Kd.S_drew)); exact HO_8.out⟩, ⟨by repeat (first | (with_reducible first | exact HB.out | apply below_alloc | apply pw_below_drewN | apply below_drew1) | exact HB.out)⟩⟩
                                    · rw [if_neg c38] at H
                                      exact absurd H (by simp)
                                  · rw [if_neg c37] at H
                                    exact absurd H (by simp)
                                · rw [if_neg c36] at H
                                  exact absurd H (by simp)
                              · rw [if_neg c35] at H
                                exact absurd H (by simp)
                            · rw [if_neg c33] at H
                              have c33b0 : decide (0 ≤ x11_2) = false := decide_eq_false c33
                              clear c33
                              by_cases c83 : 0 < (x8_2.length : Int)
                              · rw [if_pos c83] at H
                                have c83b0 : decide (0 < (x8_2.length : Int)) = true := decide_eq_true c83
                                have c83b0x := c83b0
                                (try simp only [hl9_1, hl8_2] at c83b0x)
                                have c83b1 : decide (0 < x8_2.length) = true := decide_eq_true (by omega)
                                clear c83
                                by_cases c84 : 0 ≤ a2
                                · rw [if_pos c84] at H
                                  have c84b0 : decide (0 ≤ a2) = true := decide_eq_true c84
                                  clear c84
                                  by_cases c85 : a2 < ((rd_L2 x8_2 0).length : Int)
                                  · rw [if_pos c85] at H
                                    have c85b0 : decide (a2 < ((rd_L2 x8_2 0).length : Int)) = true := decide_eq_true c85
                                    clear c85
                                    by_cases c86 : (rd (rd_L2 x8_2 0) a2) = 1001
                                    · rw [if_pos c86] at H
                                      have c86b0 : ((rd (rd_L2 x8_2 0) a2) == 1001) = true := beq_iff_eq.mpr c86
                                      have c86b1 : ((rd (rd_L2 x8_2 0) a2) != 1001) = false := bne_eq_false_iff_eq.mpr c86
                                      clear c86
                                      simp only [Option.some.injEq, Prod.mk.injEq] at H
                                      obtain ⟨rfl, rfl⟩ := H
                                      have p194 : 0 ≤ (0 : Int) := (by omega)
                                      have q194 : 0 < (x8_2.length : Int) := of_decide_eq_true (by first | (with_reducible assumption) | assumption)
                                      obtain ⟨ad194, A194_0, c194_0, e194, hx194_0, hl194_0, hi194_0⟩ := at_L2 (Kd.S_reads' HO_8.out).2.2 0 p194 q194
                                      obtain rfl : (⟨go28, 0, none⟩ : Addr) = ad194 := (by injection e194)
                                      obtain ⟨ce194, hce194, hMe194, hcc194⟩ := Kd.S_get HO_8.out [] 0 p194 (by first | exact q194 | exact of_decide_eq_true (by first | (with_reducible assumption) | assumption) | (have e_ := (Kd.S_reads' HO_8.out).1; omega))
                                      obtain ⟨ve194_0, rfl, ge194_0⟩ := hMe194
                                      have hv194_0 := hcc194 0 _ rfl
                                      rw [Nat.add_zero, show ((Kd.slice 3 (Kd.int .i64))).sz = 1 from rfl, Nat.mul_one] at hv194_0
                                      replace hv194_0 := Option.some.inj (hv194_0.symm.trans hx194_0)
                                      rw [hv194_0] at ge194_0
                                      have HL194_0 := Aside0.mk (show Kd.R (Kd.int .i64) 3 _ _ _ _ (rd_L2 x8_2 0) from ge194_0)
                                      clear hv194_0 ge194_0
                                      have HX194_0 := Aside0.mk hx194_0
                                      clear hcc194 hce194
                                      (first | simp only [add_plain] at hx194_0 | simp only [add_at] at hx194_0 | simp only [Addr.add, Nat.zero_add] at hx194_0 | skip)
                                      have qi194 : (0 < x8_2.length) = True := eq_true (by omega)
                                      (try rw [show ((0 : Int)).toNat = 0 from rfl] at hx194_0)
                                      (try rw [Addr.add_zero'] at hx194_0)
                                      have HR194_0 := Aside0.mk hi194_0
                                      have HC194_0 := Aside0.mk hl194_0
                                      clear hi194_0 hl194_0
                                      replace p194 := eq_true p194
                                      replace q194 := eq_true q194
                                      have p195 : 0 ≤ (a2 : Int) := of_decide_eq_true (by first | (with_reducible assumption) | assumption)
                                      have q195 : a2 < ((rd_L2 x8_2 0).length : Int) := of_decide_eq_true (by first | (with_reducible assumption) | assumption)
                                      obtain ⟨ad195, e195, hx195_0⟩ := Kd.at_int (by repeat (first | (with_reducible exact HR194_0.out) | (with_reducible refine Kd.C_alloc ?_ _) | (with_reducible refine Kd.C_drewN ?_ _) | (with_reducible refine Kd.C_drew ?_) | exact HR194_0.out)) a2 p195 q195
                                      cases e195
                                      replace p195 := eq_true p195
                                      replace q195 := eq_true q195
                                      go_wp2
                                      go_ret2
                                      exact ⟨_, by first | rfl | (simp [errW_none, errW_some] <;> rfl) | (simp only [← hji6, ← hji9]; first | rfl | (simp [errW_none, errW_some] <;> rfl)) | (simp [*, errW_none, errW_some] <;> rfl), by first | exact Kd.R_nil _ _ _ _ _ | exact Kd.N_nil _ _ _ _ _ | exact Kd.V_nil _ _ _ _ _ | exact Kd.Q_nil _ _ _ _ _ | exact Kd.S_nil _ _ _ _ _, by repeat (first | (with_reducible first | exact HB.out | apply below_alloc | apply pw_below_drewN | apply below_drew1) | exact HB.out)⟩
                                    · rw [if_neg c86] at H
                                      have c86b0 : ((rd (rd_L2 x8_2 0) a2) == 1001) = false := beq_eq_false_iff_ne.mpr c86
                                      have c86b1 : ((rd (rd_L2 x8_2 0) a2) != 1001) = true := bne_iff_ne.mpr c86
                                      obtain ⟨y196, hy196⟩ : ∃ y_ : List Int, y_ = (([] : List Int)) := ⟨_, rfl⟩
                                      replace H : (impl_ChangeFrom.l3 k2 a2 x8_2 y196 l0 (l0.length : Int) 0) = some (r1, r2) := by first | (rw [hy196]; with_reducible exact H) | (have H2_ := (Option.bind_some _ _).symm.trans H; rw [hy196]; with_reducible exact H2_) | (have H2_ := (Option.bind_some _ _).symm.trans H; with_reducible exact H2_) | with_reducible exact H | (rw [hy196]; exact H) | exact H
                                      have Ny196 := Aside0.mk hy196
                                      clear hy196
                                      have H' := Aside0.mk H
                                      clear H
                                      have p194 : 0 ≤ (0 : Int) := (by omega)
                                      have q194 : 0 < (x8_2.length : Int) := of_decide_eq_true (by first | (with_reducible assumption) | assumption)
                                      obtain ⟨ad194, A194_0, c194_0, e194, hx194_0, hl194_0, hi194_0⟩ := at_L2 (Kd.S_reads' HO_8.out).2.2 0 p194 q194
                                      obtain rfl : (⟨go28, 0, none⟩ : Addr) = ad194 := (by injection e194)
                                      obtain ⟨ce194, hce194, hMe194, hcc194⟩ := Kd.S_get HO_8.out [] 0 p194 (by first | exact q194 | exact of_decide_eq_true (by first | (with_reducible assumption) | assumption) | (have e_ := (Kd.S_reads' HO_8.out).1; omega))
                                      obtain ⟨ve194_0, rfl, ge194_0⟩ := hMe194
                                      have hv194_0 := hcc194 0 _ rfl
                                      rw [Nat.add_zero, show ((Kd.slice 3 (Kd.int .i64))).sz = 1 from rfl, Nat.mul_one] at hv194_0
                                      replace hv194_0 := Option.some.inj (hv194_0.symm.trans hx194_0)
                                      rw [hv194_0] at ge194_0
                                      have HL194_0 := Aside0.mk (show Kd.R (Kd.int .i64) 3 _ _ _ _ (rd_L2 x8_2 0) from ge194_0)
                                      clear hv194_0 ge194_0
                                      have HX194_0 := Aside0.mk hx194_0
                                      clear hcc194 hce194
                                      (first | simp only [add_plain] at hx194_0 | simp only [add_at] at hx194_0 | simp only [Addr.add, Nat.zero_add] at hx194_0 | skip)
                                      have qi194 : (0 < x8_2.length) = True := eq_true (by omega)
                                      (try rw [show ((0 : Int)).toNat = 0 from rfl] at hx194_0)
                                      (try rw [Addr.add_zero'] at hx194_0)
                                      have HR194_0 := Aside0.mk hi194_0
                                      have HC194_0 := Aside0.mk hl194_0
                                      clear hi194_0 hl194_0
                                      replace p194 := eq_true p194
                                      replace q194 := eq_true q194
                                      have p195 : 0 ≤ (a2 : Int) := of_decide_eq_true (by first | (with_reducible assumption) | assumption)
                                      have q195 : a2 < ((rd_L2 x8_2 0).length : Int) := of_decide_eq_true (by first | (with_reducible assumption) | assumption)
                                      obtain ⟨ad195, e195, hx195_0⟩ := Kd.at_int (by repeat (first | (with_reducible exact HR194_0.out) | (with_reducible refine Kd.C_alloc ?_ _) | (with_reducible refine Kd.C_drewN ?_ _) | (with_reducible refine Kd.C_drew ?_) | exact HR194_0.out)) a2 p195 q195
                                      cases e195
                                      replace p195 := eq_true p195
                                      replace q195 := eq_true q195
                                      go_wp2_with (first | ((with_reducible refine gate_dst (N := 141) rfl ?_); refine Kd.R_lit (Kd.int .i64) _ 3 ?hg (N := 141) ?hd (xs := ([] : List Int)) (inner := []) (ok := fun _ => True) (okp := fun _ => True) ?hr ?hp (fun _ hk => hk) trivial (Below.refl _ _) (Nat.le_refl _) (by simp) ?_; (case hd => rfl); (case hg => rfl); (case hr => first | (go_simp; done) | (go_simp; rfl)); (case hp => exact (Reps.none _ _)); intro v197 w87 ho88 hb hg_ hnew_; clear hg_ hnew_; (first | rw [← Ny196.out] at ho88 | (simp only [Int.reduceToNat] at ho88; rw [← Ny196.out] at ho88)); have n0_ := Aside0.mk (Kd.S_elder' (by (with_reducible repeat (first | apply Kd.S_alloc | apply Kd.S_drewN | apply Kd.S_drew)); exact HO_8.out) (Kd.R_base ho88) hb); have n1_ := Aside0.mk (Kd.R_elder' (by (with_reducible repeat (first | apply Kd.R_alloc | apply Kd.R_drewN | apply Kd.R_drew)); exact HL194_0.out) (Kd.R_base ho88) hb); have n2_ := Aside0.mk (Kd.R_lower (Kd.R_new' ho88 (Kd.R_lt (by (with_reducible repeat (first | apply Kd.R_alloc | apply Kd.R_drewN | apply Kd.R_drew)); exact HL194_0.out))) (below_size (by repeat (first | (with_reducible first | exact HB.out | apply below_alloc | apply pw_below_drewN | apply below_drew1) | exact HB.out)))); have n3_ := Aside0.mk (Kd.C_below (by repeat (first | (with_reducible exact HR194_0.out) | (with_reducible refine Kd.C_alloc ?_ _) | (with_reducible refine Kd.C_drewN ?_ _) | (with_reducible refine Kd.C_drew ?_) | exact HR194_0.out)) hb); have n4_ := Aside0.mk (pw_cell_below hb HX194_0.out); have n5_ := Aside0.mk (below_step (by repeat (first | (with_reducible first | exact HB.out | apply below_alloc | apply pw_below_drewN | apply below_drew1) | exact HB.out)) hb); clear HO_8; clear HL194_0; clear HR194_0; clear HX194_0; clear HB; have HO_8 := n0_; have HL194_0 := n1_; have HO198 := n2_; have HR194_0 := n3_; have HX194_0 := n4_; have HB := n5_; clear n0_ n1_ n2_ n3_ n4_ n5_; clear hb ho88))
                                      go_loopg [2, 13, 144] k2 (fun kq v2 v13 v144 w' => ∃ (x2_3 : Int) (x13_3 : List Int) (x144_3 : Int), v2 = .int .i64 x2_3 ∧ v144 = .int .i64 x144_3 ∧ Aside0 (impl_ChangeFrom.l3 kq x2_3 x8_2 x13_3 l0 (l0.length : Int) x144_3 = some (r1, r2)) ∧ Aside0 (kq ≤ k2) ∧ Aside0 (Kd.S (Kd.slice 3 (Kd.int .i64)) 22 w' w.heap.size (fun k_ => some k_ ≠ (v13 : Value).ownBlock) (.slice (some ⟨go28, 0, none⟩) x8_2.length co28) x8_2) ∧ Aside0 (Kd.R (Kd.int .i64) 3 w' w.heap.size (fun _ => True) v13 x13_3) ∧ Aside0 (Below w.heap.size w w'))
                                      case atStart => exact ⟨(a2), (y196), (0), (by first | rfl | (simp; done) | (simp [*]; done)), (by first | rfl | (simp; done) | (simp [*]; done)), H', ⟨Nat.le_refl _⟩, ⟨by (try simp only [hl9_1]); (try simp only [hl8_2]); (with_reducible repeat (first | apply Kd.S_alloc | apply Kd.S_drewN | apply Kd.S_drew)); exact Kd.S_mono HO_8.out (fun _ hk => hk.2)⟩, ⟨by (try simp only [hl9_1]); (try simp only [hl8_2]); (with_reducible repeat (first | apply Kd.R_alloc | apply Kd.R_drewN | apply Kd.R_drew)); exact Kd.R_mono HO198.out (fun _ hk => trivial)⟩, ⟨by repeat (first | (with_reducible first | exact HB.out | apply below_alloc | apply pw_below_drewN | apply below_drew1) | exact HB.out)⟩⟩
                                      case round =>
                                        clear H'
                                        try clear c1
                                        try clear p1
                                        try clear q1
                                        try clear hx1
                                        try clear qi1
                                        try clear p2
                                        try clear c3
                                        try clear c4
                                        try clear c5
                                        try clear c6
                                        try clear p6
                                        try clear c7
                                        try clear p7
                                        try clear q7
                                        try clear hx7
                                        try clear hf7
                                        try clear c8
                                        try clear q8
                                        try clear c16
                                        try clear p16
                                        try clear q16
                                        try clear hx16
                                        try clear c17
                                        try clear p17
                                        try clear q17
                                        try clear hx17
                                        try clear c18
                                        try clear p18
                                        try clear q18
                                        try clear hx18
                                        try clear c19
                                        try clear p19
                                        try clear q19
                                        try clear hx19
                                        try clear qi19
                                        try clear c33
                                        try clear c33b0
                                        try clear c35
                                        try clear c36
                                        try clear c37
                                        try clear c38
                                        try clear c44
                                        try clear c44b0
                                        try clear c46
                                        try clear c47
                                        try clear c48
                                        try clear c49
                                        try clear c57
                                        try clear c58
                                        try clear c59
                                        try clear c59b0
                                        try clear c60
                                        try clear c62
                                        try clear c63
                                        try clear c64
                                        try clear p64
                                        try clear c72
                                        try clear p73
                                        try clear q73
                                        try clear hx73
                                        try clear hf73
                                        try clear c75
                                        try clear q75
                                        try clear c77
                                        try clear c77b0
                                        try clear c78
                                        try clear c78b0
                                        try clear p79
                                        try clear q79
                                        try clear hx79
                                        try clear hf79
                                        try clear c81
                                        try clear q81
                                        try clear c83
                                        try clear c83b0
                                        try clear c83b1
                                        try clear c84
                                        try clear c84b0
                                        try clear c85
                                        try clear c85b0
                                        try clear c86
                                        try clear c86b0
                                        try clear c86b1
                                        try clear hx168_0
                                        try clear hx169_0
                                        try clear hx174_0
                                        try clear hx175_0
                                        try clear hx177_0
                                        try clear hx186_0
                                        try clear hx190_0
                                        try clear hx194_0
                                        try clear hx195_0
                                        try clear hx73_0
                                        try clear hx79_0
                                        try clear p168
                                        try clear p169
                                        try clear p174
                                        try clear p186
                                        try clear p190
                                        try clear p194
                                        try clear p195
                                        try clear p73
                                        try clear p79
                                        try clear q168
                                        try clear q169
                                        try clear q174
                                        try clear q186
                                        try clear q190
                                        try clear q194
                                        try clear q195
                                        try clear q73
                                        try clear q79
                                        obtain ⟨x2_3, x13_3, x144_3, rfl, rfl, HA, HK3, HO_8, HO_13, HB⟩ := hrel
                                        cases gk with
                                        | zero => exact absurd HA.out (by simp [impl_ChangeFrom.l3])
                                        | succ k3 =>
                                          have H := HA.out
                                          clear HA
                                          simp only [impl_ChangeFrom.l3] at H
                                          by_cases c89 : x144_3 < (l0.length : Int)
                                          · rw [if_pos c89] at H
                                            have c89b0 : decide (x144_3 < (l0.length : Int)) = true := decide_eq_true c89
                                            clear c89
                                            by_cases c90 : 0 ≤ x144_3
                                            · rw [if_pos c90] at H
                                              have c90b0 : decide (0 ≤ x144_3) = true := decide_eq_true c90
                                              clear c90
                                              by_cases c91 : x144_3 < (l0.length : Int)
                                              · rw [if_pos c91] at H
                                                have c91b0 : decide (x144_3 < (l0.length : Int)) = true := decide_eq_true c91
                                                clear c91
                                                by_cases c92 : x144_3 < (x8_2.length : Int)
                                                · rw [if_pos c92] at H
                                                  have c92b0 : decide (x144_3 < (x8_2.length : Int)) = true := decide_eq_true c92
                                                  have c92b0x := c92b0
                                                  (try simp only [hl9_1, hl8_2] at c92b0x)
                                                  clear c92
                                                  by_cases c93 : 0 ≤ x2_3
                                                  · rw [if_pos c93] at H
                                                    have c93b0 : decide (0 ≤ x2_3) = true := decide_eq_true c93
                                                    clear c93
                                                    by_cases c94 : x2_3 < ((rd_L2 x8_2 x144_3).length : Int)
                                                    · rw [if_pos c94] at H
                                                      have c94b0 : decide (x2_3 < ((rd_L2 x8_2 x144_3).length : Int)) = true := decide_eq_true c94
                                                      clear c94
                                                      by_cases c95 : x13_3.length < 17592186044416
                                                      · rw [if_pos c95] at H
                                                        have LMc95 := Aside0.mk c95
                                                        clear c95
                                                        obtain ⟨y202, hy202⟩ : ∃ y_ : List Int, y_ = (x13_3 ++ [rd (rd_L2 x8_2 x144_3) x2_3]) := ⟨_, rfl⟩
                                                        replace H : (impl_ChangeFrom.l3 k3 (wrap64 (x2_3 - (wrap64 ((rd (rd_L2 x8_2 x144_3) x2_3) * (rd l0 x144_3))))) x8_2 y202 l0 (l0.length : Int) (wrap64 (x144_3 + 1))) = some (r1, r2) := by first | (rw [hy202]; with_reducible exact H) | (have H2_ := (Option.bind_some _ _).symm.trans H; rw [hy202]; with_reducible exact H2_) | (have H2_ := (Option.bind_some _ _).symm.trans H; with_reducible exact H2_) | with_reducible exact H | (rw [hy202]; exact H) | exact H
                                                        have Ny202 := Aside0.mk hy202
                                                        clear hy202
                                                        have H' := Aside0.mk H
                                                        clear H
                                                        have p199 : 0 ≤ (x144_3 : Int) := of_decide_eq_true (by first | (with_reducible assumption) | assumption)
                                                        have q199 : x144_3 < (l0.length : Int) := of_decide_eq_true (by first | (with_reducible assumption) | assumption)
                                                        obtain ⟨ad199, e199, hx199_0⟩ := Kd.at_int HR0.out x144_3 p199 q199
                                                        cases e199
                                                        (try replace hx199_0 := (HB.out.cell (World.block_lt_of_cell? w _ hx199_0)).trans hx199_0)
                                                        replace p199 := eq_true p199
                                                        replace q199 := eq_true q199
                                                        have p200 : 0 ≤ (x144_3 : Int) := of_decide_eq_true (by first | (with_reducible assumption) | assumption)
                                                        have q200 : x144_3 < (x8_2.length : Int) := of_decide_eq_true (by first | (with_reducible assumption) | assumption)
                                                        obtain ⟨ad200, A200_0, c200_0, e200, hx200_0, hl200_0, hi200_0⟩ := at_L2 (Kd.S_reads' HO_8.out).2.2 x144_3 p200 q200
                                                        obtain rfl : (⟨go28, 0, none⟩ : Addr) = ad200 := (by injection e200)
                                                        obtain ⟨ce200, hce200, hMe200, hcc200⟩ := Kd.S_get HO_8.out [] x144_3 p200 (by first | exact q200 | exact of_decide_eq_true (by first | (with_reducible assumption) | assumption) | (have e_ := (Kd.S_reads' HO_8.out).1; omega))
                                                        obtain ⟨ve200_0, rfl, ge200_0⟩ := hMe200
                                                        have hv200_0 := hcc200 0 _ rfl
                                                        rw [Nat.add_zero, show ((Kd.slice 3 (Kd.int .i64))).sz = 1 from rfl, Nat.mul_one] at hv200_0
                                                        replace hv200_0 := Option.some.inj (hv200_0.symm.trans hx200_0)
                                                        rw [hv200_0] at ge200_0
                                                        have HL200_0 := Aside0.mk (show Kd.R (Kd.int .i64) 3 _ _ _ _ (rd_L2 x8_2 x144_3) from ge200_0)
                                                        clear hv200_0 ge200_0
                                                        have HX200_0 := Aside0.mk hx200_0
                                                        clear hcc200 hce200
                                                        (first | simp only [add_plain] at hx200_0 | simp only [add_at] at hx200_0 | simp only [Addr.add, Nat.zero_add] at hx200_0 | skip)
                                                        have HR200_0 := Aside0.mk hi200_0
                                                        have HC200_0 := Aside0.mk hl200_0
                                                        clear hi200_0 hl200_0
                                                        replace p200 := eq_true p200
                                                        replace q200 := eq_true q200
                                                        have p201 : 0 ≤ (x2_3 : Int) := of_decide_eq_true (by first | (with_reducible assumption) | assumption)
                                                        have q201 : x2_3 < ((rd_L2 x8_2 x144_3).length : Int) := of_decide_eq_true (by first | (with_reducible assumption) | assumption)
                                                        obtain ⟨ad201, e201, hx201_0⟩ := Kd.at_int (by repeat (first | (with_reducible exact HR200_0.out) | (with_reducible refine Kd.C_alloc ?_ _) | (with_reducible refine Kd.C_drewN ?_ _) | (with_reducible refine Kd.C_drew ?_) | exact HR200_0.out)) x2_3 p201 q201
                                                        cases e201
                                                        replace p201 := eq_true p201
                                                        replace q201 := eq_true q201
                                                        go_wp2_with (first | ((with_reducible refine gate_builtin (b := .append) (xs := #[.tmp 156, .tmp 158]) rfl ?_); at_builtin; refine Kd.R_append (Kd.int .i64) (w0 := w) w.heap.size rfl (.tmp 156) (.tmp 158) 22 3 (.int .i64 0) 8 rfl Try.underlying22 info3 rfl (by decide) (by omega) u13 x13_3 (rd (rd_L2 x8_2 x144_3) x2_3) [.int .i64 (rd (rd_L2 x8_2 x144_3) x2_3)] (fun _ => True) (fun _ => False) rfl rfl ?aP (fun _ hk => hk.elim) ?aF ?aO ?aB ?aS ?aL ?_; (case aP => exact rfl); (case aB => exact (by repeat (first | (with_reducible first | exact HB.out | apply below_alloc | apply pw_below_drewN | apply below_drew1) | exact HB.out))); (case aF => exact (fun _ _ => trivial)); (case aO => exact (by (with_reducible repeat (first | apply Kd.R_alloc | apply Kd.R_drewN | apply Kd.R_drew)); exact HO_13.out)); (case aS => exact (below_size (by repeat (first | (with_reducible first | exact HB.out | apply below_alloc | apply pw_below_drewN | apply below_drew1) | exact HB.out)))); (case aL => have := LMc95.out; omega); intro v203 w96 ho hb hg hat; rw [← Ny202.out] at ho; have n0_ := Aside0.mk (Kd.S_after (ok := (fun _ => True)) (by (with_reducible repeat (first | apply Kd.S_alloc | apply Kd.S_drewN | apply Kd.S_drew)); exact Kd.S_mono HO_8.out (fun _ hk => ⟨trivial, hk⟩)) hg hat); have n1_ := Aside0.mk (Kd.R_after (ok := (fun k_ => some k_ ≠ (.slice (some ⟨go28, 0, none⟩) x8_2.length co28 : Value).ownBlock)) (by (with_reducible repeat (first | apply Kd.R_alloc | apply Kd.R_drewN | apply Kd.R_drew)); exact Kd.R_mono HL200_0.out (fun _ hk => ⟨hk.2, hk.1⟩)) hg hat); have n2_ := Aside0.mk (hb); have n3_ := Aside0.mk (ho); clear HO_8; clear HL200_0; clear HB; clear HO_13; have HO_8 := n0_; have HL200_0 := n1_; have HB := n2_; have HO204 := n3_; clear n0_ n1_ n2_ n3_; clear ho hb hg hat))
                                                        go_roundg k3
                                                        case measure => have := HK1.out; have := HK2.out; have := HK3.out; omega
                                                        case rel => exact ⟨(wrap64 (x2_3 - (wrap64 ((rd (rd_L2 x8_2 x144_3) x2_3) * (rd l0 x144_3))))), (y202), (wrap64 (x144_3 + 1)), (by first | rfl | (simp; done) | (simp [*]; done)), (by first | rfl | (simp; done) | (simp [*]; done)), H', ⟨by have := HK1.out; have := HK2.out; have := HK3.out; omega⟩, ⟨by (try simp only [hl9_1]); (try simp only [hl8_2]); (with_reducible repeat (first | apply Kd.S_alloc | apply Kd.S_drewN | apply Kd.S_drew)); exact Kd.S_mono HO_8.out (fun _ hk => hk.2)⟩, ⟨by (try simp only [hl9_1]); (try simp only [hl8_2]); (with_reducible repeat (first | apply Kd.R_alloc | apply Kd.R_drewN | apply Kd.R_drew)); exact HO204.out⟩, ⟨by repeat (first | (with_reducible first | exact HB.out | apply below_alloc | apply pw_below_drewN | apply below_drew1) | exact HB.out)⟩⟩
                                                      · rw [if_neg c95] at H
                                                        exact absurd H (by simp)
                                                    · rw [if_neg c94] at H
                                                      exact absurd H (by simp)
                                                  · rw [if_neg c93] at H
                                                    exact absurd H (by simp)
                                                · rw [if_neg c92] at H
                                                  exact absurd H (by simp)
                                              · rw [if_neg c91] at H
                                                exact absurd H (by simp)
                                            · rw [if_neg c90] at H
                                              exact absurd H (by simp)
                                          · rw [if_neg c89] at H
                                            have c89b0 : decide (x144_3 < (l0.length : Int)) = false := decide_eq_false c89
                                            clear c89
                                            simp only [Option.some.injEq, Prod.mk.injEq] at H
                                            obtain ⟨rfl, rfl⟩ := H
                                            go_wp2
                                            go_ret2
                                            exact ⟨_, by first | rfl | (simp [errW_none, errW_some] <;> rfl) | (simp only [← hji6, ← hji9]; first | rfl | (simp [errW_none, errW_some] <;> rfl)) | (simp [*, errW_none, errW_some] <;> rfl), by (with_reducible repeat (first | apply Kd.R_alloc | apply Kd.R_drewN | apply Kd.R_drew)); exact HO_13.out, by repeat (first | (with_reducible first | exact HB.out | apply below_alloc | apply pw_below_drewN | apply below_drew1) | exact HB.out)⟩
                                  · rw [if_neg c85] at H
                                    exact absurd H (by simp)
                                · rw [if_neg c84] at H
                                  exact absurd H (by simp)
                              · rw [if_neg c83] at H
                                exact absurd H (by simp)
                      · rw [if_neg c27] at H
                        exact absurd H (by simp)
                    · rw [if_neg c26] at H
                      exact absurd H (by simp)
                  · rw [if_neg c24] at H
                    exact absurd H (by simp)
          · rw [if_neg c11] at H
            exact absurd H (by simp)
        · rw [if_neg c10] at H
          exact absurd H (by simp)
      · rw [if_neg c8] at H
        exact absurd H (by simp)
    · rw [if_neg c7] at H
      exact absurd H (by simp)
  · replace c5 := Bool.eq_false_iff.mpr c5
    subst c5
    have H1 : (some (([] : List Int), false)) = some (r1, r2) := by rw [if_neg (show ¬ (false = true) by decide)] at H; exact H
    clear H
    have H := H1
    clear H1
    simp only [Option.some.injEq, Prod.mk.injEq] at H
    obtain ⟨rfl, rfl⟩ := H
    go_enter Try.func36, Try.ntmps36
    go_wp2_with (first | ((with_reducible refine gate_callee (f := 55) rfl ?_); refine goesL_ (some 20) rfl rfl Try.func55 (by kernel_rfl) rfl #[.slice A0 l0.length c0, .slice A1 l1.length c1, .int .i64 a2] rfl (by (try simp only [List.map_toArray, List.map_cons, List.map_nil]); first | done | rfl | (simp only [List.length_drop, List.length_take]; rfl)) ?_; (with_reducible refine (impl_isPurse.calls k _ _ l0 _ _ l1 a2 false _ ?side1 ?side2 ?side3 ?side4 A4.out).mono ?_); (case side1 => repeat (first | exact HR0.out | (with_reducible refine Kd.C_alloc ?_ _) | (with_reducible refine Kd.C_drewN ?_ _) | (with_reducible refine Kd.C_drew ?_))); (case side2 => exact HC0.out); (case side3 => repeat (first | exact HR1.out | (with_reducible refine Kd.C_alloc ?_ _) | (with_reducible refine Kd.C_drewN ?_ _) | (with_reducible refine Kd.C_drew ?_))); (case side4 => exact HC1.out); rintro e w97 ⟨rfl, hb⟩; refine ⟨_, rfl, ?_⟩; have n0_ := Aside0.mk (below_step (by repeat (first | (with_reducible first | exact HB.out | apply below_alloc | apply pw_below_drewN | apply below_drew1) | exact HB.out)) hb); clear HB; have HB := n0_; clear n0_; (try clear hb); (try clear hb2); (try clear hk); (try clear hi)))
    go_ret2
    exact ⟨_, by first | rfl | (simp [errW_none, errW_some] <;> rfl) | (simp [*, errW_none, errW_some] <;> rfl), by first | exact Kd.R_nil _ _ _ _ _ | exact Kd.N_nil _ _ _ _ _ | exact Kd.V_nil _ _ _ _ _ | exact Kd.Q_nil _ _ _ _ _ | exact Kd.S_nil _ _ _ _ _, by repeat (first | (with_reducible first | exact HB.out | apply below_alloc | apply pw_below_drewN | apply below_drew1) | exact HB.out)⟩

end Go.Proofs.Ytohghfeomocnlaa.C
