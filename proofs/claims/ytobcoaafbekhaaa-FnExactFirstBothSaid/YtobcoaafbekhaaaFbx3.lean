/- Functions of the program and of the reference as Lean functions, and the contracts of their calls: laid by a program of this repo (wip/gen.py), in part by hand. -/
import Derived.Test.YtobcoaafbekhaaaFbx0
import Derived.Test.YtobcoaafbekhaaaFbx1
import Derived.Test.YtobcoaafbekhaaaFbx2
namespace Go.Proofs.Ytobcoaafbekhaaa.Fb
open Go.RowKit Go.Proofs.YtobcoaafbekhaaaW.PrintWords Go.Proofs.YtobcoaafbekhaaaW.PrintLast Go.Proofs.YtobcoaafbekhaaaW.PrintMore
attribute [local go_sem] max2_int min2_int max_two min_two max_three min_three max_four min_four   -- for this text's walks alone
set_option linter.unusedVariables false
set_option linter.unusedSimpArgs false

/-! ### spec_siWays: function 50 -/
mutual
def spec_siWays.l0 : Nat → Int → List Int → List Int → Int → Int → Option (List Int)
  | 0, _, _, _, _, _ => none
  | k + 1, x3, x4, x19, x20, x21 => if x21 < x20 then (if 0 ≤ x21 then (if x21 < (x19.length : Int) then (if 0 ≤ (wrap64 ((wrap64 (2 * x3)) + 1)) then (if (wrap64 ((wrap64 (2 * x3)) + 1) : Int).toNat ≤ 35184372088832 then (spec_siWays.l1 k x3 (rd x19 x21) (List.replicate (wrap64 ((wrap64 (2 * x3)) + 1) : Int).toNat 0) x19 x20 x21 x4 (x4.length : Int) 0) else (none)) else (none)) else (none)) else (none)) else (some x4)
def spec_siWays.l1 : Nat → Int → Int → List Int → List Int → Int → Int → List Int → Int → Int → Option (List Int)
  | 0, _, _, _, _, _, _, _, _, _ => none
  | k + 1, x3, x6, x7, x19, x20, x21, x29, x30, x31 => if x31 < x30 then (if 0 ≤ x31 then (if x31 < (x29.length : Int) then (if (rd x29 x31) > 0 then (if x31 < (x7.length : Int) then ((some (x7.set (x31 : Int).toNat (wrap64 ((rd x7 x31) + (rd x29 x31))) : List Int)).bind fun y128 => (if 0 ≤ (wrap64 (x31 + x6)) then (if (wrap64 (x31 + x6)) < (x7.length : Int) then ((some (y128.set ((wrap64 (x31 + x6)) : Int).toNat (wrap64 ((rd y128 (wrap64 (x31 + x6))) + (rd x29 x31))) : List Int)).bind fun y130 => (if 0 ≤ (wrap64 (x31 - x6)) then (if (wrap64 (x31 - x6)) < (x7.length : Int) then (spec_siWays.l1 k x3 x6 (y130.set ((wrap64 (x31 - x6)) : Int).toNat (wrap64 ((rd y130 (wrap64 (x31 - x6))) + (rd x29 x31)))) x19 x20 x21 x29 x30 (wrap64 (x31 + 1))) else (none)) else (none))) else (none)) else (none))) else (none)) else (spec_siWays.l1 k x3 x6 x7 x19 x20 x21 x29 x30 (wrap64 (x31 + 1)))) else (none)) else (none)) else (spec_siWays.l0 k x3 x7 x19 x20 (wrap64 (x21 + 1)))
end
def spec_siWays.f (k : Nat) (l0 : List Int) : Option (List Int) := (spec_piSum.f k l0).bind fun t117 => (if 0 ≤ (wrap64 ((wrap64 (2 * t117)) + 1)) then (if (wrap64 ((wrap64 (2 * t117)) + 1) : Int).toNat ≤ 35184372088832 then ((some (List.replicate (wrap64 ((wrap64 (2 * t117)) + 1) : Int).toNat 0 : List Int)).bind fun y118 => (if 0 ≤ t117 then (if t117 < (y118.length : Int) then (spec_siWays.l0 k t117 (y118.set (t117 : Int).toNat 1) l0 (l0.length : Int) 0) else (none)) else (none))) else (none)) else (none))
theorem spec_siWays.mono_l : ∀ k, (∀ y0 y1 y2 y3 y4, LeO (spec_siWays.l0 k y0 y1 y2 y3 y4) (spec_siWays.l0 (k + 1) y0 y1 y2 y3 y4)) ∧ (∀ y0 y1 y2 y3 y4 y5 y6 y7 y8, LeO (spec_siWays.l1 k y0 y1 y2 y3 y4 y5 y6 y7 y8) (spec_siWays.l1 (k + 1) y0 y1 y2 y3 y4 y5 y6 y7 y8))
  | 0 => ⟨fun _ _ _ _ _ r h => by simp [spec_siWays.l0] at h, fun _ _ _ _ _ _ _ _ _ r h => by simp [spec_siWays.l1] at h⟩
  | k + 1 => by
    obtain ⟨ih0, ih1⟩ := spec_siWays.mono_l k
    refine ⟨?_, ?_⟩
    · intro y0 y1 y2 y3 y4
      unfold spec_siWays.l0
      repeat' first
      | (with_reducible exact ih0 _ _ _ _ _)
      | (with_reducible exact ih1 _ _ _ _ _ _ _ _ _)
      | (with_reducible exact spec_piSum.mono _ _)
      | (with_reducible exact LeO.refl _)
      | (with_reducible exact LeO.none _)
      | (with_reducible refine LeO.ite ?_ ?_)
      | (with_reducible refine LeO.bind ?_ (fun _ => ?_))
      | exact ih0 _ _ _ _ _
      | exact ih1 _ _ _ _ _ _ _ _ _
      | exact spec_piSum.mono _ _
      | exact LeO.none _
      | refine LeO.ite ?_ ?_
      | refine LeO.bind ?_ (fun _ => ?_)
    · intro y0 y1 y2 y3 y4 y5 y6 y7 y8
      unfold spec_siWays.l1
      repeat' first
      | (with_reducible exact ih0 _ _ _ _ _)
      | (with_reducible exact ih1 _ _ _ _ _ _ _ _ _)
      | (with_reducible exact spec_piSum.mono _ _)
      | (with_reducible exact LeO.refl _)
      | (with_reducible exact LeO.none _)
      | (with_reducible refine LeO.ite ?_ ?_)
      | (with_reducible refine LeO.bind ?_ (fun _ => ?_))
      | exact ih0 _ _ _ _ _
      | exact ih1 _ _ _ _ _ _ _ _ _
      | exact spec_piSum.mono _ _
      | exact LeO.none _
      | refine LeO.ite ?_ ?_
      | refine LeO.bind ?_ (fun _ => ?_)
theorem spec_siWays.mono : ∀ a0 k, LeO (spec_siWays.f k a0) (spec_siWays.f (k + 1) a0) := by
  intro a0 k
  obtain ⟨ih0, ih1⟩ := spec_siWays.mono_l k
  unfold spec_siWays.f
  repeat' first
      | (with_reducible exact ih0 _ _ _ _ _)
      | (with_reducible exact ih1 _ _ _ _ _ _ _ _ _)
      | (with_reducible exact spec_piSum.mono _ _)
      | (with_reducible exact LeO.refl _)
      | (with_reducible exact LeO.none _)
      | (with_reducible refine LeO.ite ?_ ?_)
      | (with_reducible refine LeO.bind ?_ (fun _ => ?_))
      | exact ih0 _ _ _ _ _
      | exact ih1 _ _ _ _ _ _ _ _ _
      | exact spec_piSum.mono _ _
      | exact LeO.none _
      | refine LeO.ite ?_ ?_
      | refine LeO.bind ?_ (fun _ => ?_)
set_option maxHeartbeats 8000000 in
set_option maxRecDepth 100000 in
theorem spec_siWays.calls (k : Nat) (A0 : Option Addr) (c0 : Nat) (l0 : List Int) (r : List Int) (w : World) (hr0 : Kd.C (Kd.int .i64) w A0 l0.length l0) (hc0 : l0.length ≤ c0) (h : spec_siWays.f k l0 = some r) :
    Calls Try.prog 50 #[.slice A0 l0.length c0] w fun e w' => ∃ v0_ : Value, e = .returned (v0_) ∧ Kd.R (Kd.int .i64) 3 w' w.heap.size (fun _ => True) v0_ r ∧ Below w.heap.size w w' := by
  have HR0 := Aside0.mk hr0
  have HC0 := Aside0.mk hc0
  clear hr0 hc0
  have HB := Aside0.mk (Below.refl w.heap.size w)
  have H : ((spec_piSum.f k l0).bind fun t117 => (if 0 ≤ (wrap64 ((wrap64 (2 * t117)) + 1)) then (if (wrap64 ((wrap64 (2 * t117)) + 1) : Int).toNat ≤ 35184372088832 then ((some (List.replicate (wrap64 ((wrap64 (2 * t117)) + 1) : Int).toNat 0 : List Int)).bind fun y118 => (if 0 ≤ t117 then (if t117 < (y118.length : Int) then (spec_siWays.l0 k t117 (y118.set (t117 : Int).toNat 1) l0 (l0.length : Int) 0) else (none)) else (none))) else (none)) else (none))) = some r := h
  clear h
  replace H := Option.bind_eq_some_iff.mp H
  obtain ⟨t117, A20, H⟩ := H
  replace H : (if 0 ≤ (wrap64 ((wrap64 (2 * t117)) + 1)) then (if (wrap64 ((wrap64 (2 * t117)) + 1) : Int).toNat ≤ 35184372088832 then ((some (List.replicate (wrap64 ((wrap64 (2 * t117)) + 1) : Int).toNat 0 : List Int)).bind fun y118 => (if 0 ≤ t117 then (if t117 < (y118.length : Int) then (spec_siWays.l0 k t117 (y118.set (t117 : Int).toNat 1) l0 (l0.length : Int) 0) else (none)) else (none))) else (none)) else (none)) = some r := H
  have A2 := Aside0.mk A20
  clear A20
  obtain ⟨ji3, hji3⟩ : ∃ j_ : Int, (wrap64 ((wrap64 (2 * t117)) + 1)) = j_ := ⟨_, rfl⟩
  replace H : (if 0 ≤ (ji3) then (if (ji3 : Int).toNat ≤ 35184372088832 then ((some (List.replicate (ji3 : Int).toNat 0 : List Int)).bind fun y118 => (if 0 ≤ t117 then (if t117 < (y118.length : Int) then (spec_siWays.l0 k t117 (y118.set (t117 : Int).toNat 1) l0 (l0.length : Int) 0) else (none)) else (none))) else (none)) else (none)) = some r := by first | (rw [hji3] at H; exact H) | (simp only [hji3] at H ⊢; exact H)
  (try rw [hji3] at A2)
  have hji3w : (IntKind.i64.wrap ((wrap64 (2 * t117)) + 1)) = ji3 := (i64_w _).trans hji3
  by_cases c4 : 0 ≤ (ji3)
  · rw [if_pos c4] at H
    have c4b0 := eq_true c4
    have c4b1 : decide (0 ≤ (ji3)) = true := decide_eq_true c4
    clear c4
    by_cases c5 : (ji3 : Int).toNat ≤ 35184372088832
    · rw [if_pos c5] at H
      have c5b0 := eq_true c5
      have c5b1 : decide ((ji3 : Int).toNat ≤ 35184372088832) = true := decide_eq_true c5
      clear c5
      obtain ⟨y118, hy118⟩ : ∃ y_ : List Int, y_ = (List.replicate (ji3 : Int).toNat 0) := ⟨_, rfl⟩
      replace H : (if 0 ≤ t117 then (if t117 < (y118.length : Int) then (spec_siWays.l0 k t117 (y118.set (t117 : Int).toNat 1) l0 (l0.length : Int) 0) else (none)) else (none)) = some r := by first | (rw [hy118]; with_reducible exact H) | (have H2_ := (Option.bind_some _ _).symm.trans H; rw [hy118]; with_reducible exact H2_) | (have H2_ := (Option.bind_some _ _).symm.trans H; with_reducible exact H2_) | with_reducible exact H | (rw [hy118]; exact H) | exact H
      have Ny118 := Aside0.mk hy118
      clear hy118
      by_cases c6 : 0 ≤ t117
      · rw [if_pos c6] at H
        have c6b0 : decide (0 ≤ t117) = true := decide_eq_true c6
        clear c6
        by_cases c7 : t117 < (y118.length : Int)
        · rw [if_pos c7] at H
          have c7b0 : decide (t117 < (y118.length : Int)) = true := decide_eq_true c7
          clear c7
          obtain ⟨y121, hy121⟩ : ∃ y_ : List Int, y_ = (y118.set (t117 : Int).toNat 1) := ⟨_, rfl⟩
          replace H : (spec_siWays.l0 k t117 y121 l0 (l0.length : Int) 0) = some r := by first | (rw [hy121]; with_reducible exact H) | (have H2_ := (Option.bind_some _ _).symm.trans H; rw [hy121]; with_reducible exact H2_) | (have H2_ := (Option.bind_some _ _).symm.trans H; with_reducible exact H2_) | with_reducible exact H | (rw [hy121]; exact H) | exact H
          have Ny121 := Aside0.mk hy121
          clear hy121
          have H' := Aside0.mk H
          clear H
          go_enter Try.func50, Try.ntmps50
          go_wp2_with (first | ((with_reducible refine gate_callee (f := 41) rfl ?_); refine goesL_ (some 11) rfl rfl Try.func41 (by kernel_rfl) rfl #[.slice A0 l0.length c0] rfl (by (try simp only [List.map_toArray, List.map_cons, List.map_nil]); first | done | rfl | (simp only [List.length_drop, List.length_take]; rfl)) ?_; (with_reducible refine (spec_piSum.calls k _ _ l0 t117 _ ?side1 ?side2 A2.out).mono ?_); (case side1 => repeat (first | exact HR0.out | (with_reducible refine Kd.C_alloc ?_ _) | (with_reducible refine Kd.C_drewN ?_ _) | (with_reducible refine Kd.C_drew ?_))); (case side2 => exact HC0.out); rintro e w' ⟨rfl, ⟨nd, rfl⟩⟩; refine ⟨_, rfl, ?_⟩) | ((with_reducible refine gate_dst (N := 15) rfl ?_); refine Kd.R_make (Kd.int .i64) _ 3 rfl (N := 15) rfl 22 _ _ rfl ji3 rfl rfl Try.underlying22 (.int .i64 0) 8 info3 rfl (by decide) (by omega) 0 (ok := fun _ => True) (okp := fun _ => True) rfl (fun _ hk => hk) trivial (of_decide_eq_true (by first | (with_reducible assumption) | assumption)) (Nat.le_trans (Nat.mul_le_mul_right _ (of_decide_eq_true (by first | (with_reducible assumption) | assumption) : ji3.toNat ≤ 35184372088832)) (by omega)) (Below.refl _ _) (Nat.le_refl _) ?_; intro v119 w9 ho10 hb hg_ hnew_; clear hg_ hnew_; (first | rw [← Ny118.out] at ho10 | (simp only [Int.reduceToNat] at ho10; rw [← Ny118.out] at ho10)); have n0_ := Aside0.mk (Kd.R_lower ho10 (below_size (by repeat (first | (with_reducible first | exact HB.out | apply below_alloc | apply pw_below_drewN | apply below_drew1) | exact HB.out)))); have n1_ := Aside0.mk (below_step (by repeat (first | (with_reducible first | exact HB.out | apply below_alloc | apply pw_below_drewN | apply below_drew1) | exact HB.out)) hb); clear HB; have HO120 := n0_; have HB := n1_; clear n0_ n1_; clear hb ho10; have p8 : 0 ≤ (t117 : Int) := of_decide_eq_true (by first | (with_reducible assumption) | assumption); have q8 : (t117 : Int) < ((y118.length : Int) : Int) := of_decide_eq_true (by first | (with_reducible assumption) | assumption); obtain ⟨go8, co8, eo8, gb8, gl8, cl8, HG8⟩ := Kd.R_form HO120.out (by omega); (first | cases eo8 | (injection eo8 with ea_ en_ ec_; (first | subst ea_ | (injection ea_ with ea_; subst ea_)); subst ec_; clear en_)); have GB8 := Aside0.mk gb8; have GG8 := Aside0.mk HG8; clear gb8 gl8 HG8; obtain ⟨hx8_0, hf8_0⟩ := Kd.R_celln 0 HO120.out (t117 : Int) p8 q8; replace p8 := eq_true p8; replace q8 := eq_true q8; obtain ⟨hy11_, hz11_⟩ := Kd.R_celln 0 HO120.out (t117 : Int) (of_decide_eq_true (by first | (with_reducible assumption) | assumption)) (of_decide_eq_true (by first | (with_reducible assumption) | assumption)); have HP11 := Kd.R_putg HO120.out (t117 : Int) 1) | ((with_reducible refine gate_store (t := 3) (p := 18) rfl ?_); refine store_event (t := 3) (p := 18) (v := ?vo_w12) (w1 := (w9.setCell ⟨go8, (t117 : Int).toNat, none⟩ (.int .i64 1))) ?hg ?ho ?hn ?hr ?_; (case ho => rfl); (case hg => rfl); (case hn => rfl); (case hr => first | (go_simp; done) | (go_simp; rfl)); intro w12 hw; have hg : w9.grownBy w12 (some go8) := (by rw [hw]; exact HP11.2); have hp_ : Kd.R (Kd.int .i64) 3 w12 w.heap.size (fun _ => True) (.slice (some ⟨go8, 0, none⟩) y118.length co8) y121 := (by rw [hw, Ny121.out]; exact HP11.1); clear HP11; have n0_ := Aside0.mk (hp_); have n1_ := Aside0.mk ((by rw [hw]; exact below_set (HB.out) GB8.out : Below w.heap.size w w12)); clear HO120; clear HB; have HO120 := n0_; have HB := n1_; clear n0_ n1_; clear hg hw hp_))
          go_loopg [4, 21] k (fun kq v4 v21 w' => ∃ (x4_1 : List Int) (x21_1 : Int), v21 = .int .i64 x21_1 ∧ Aside0 (spec_siWays.l0 kq t117 x4_1 l0 (l0.length : Int) x21_1 = some r) ∧ Aside0 (kq ≤ k) ∧ Aside0 (Kd.R (Kd.int .i64) 3 w' w.heap.size (fun _ => True) v4 x4_1) ∧ Aside0 (Below w.heap.size w w'))
          case atStart => exact ⟨(y121), (0), (by first | rfl | (simp; done) | (simp [*]; done)), H', ⟨Nat.le_refl _⟩, ⟨by (with_reducible repeat (first | apply Kd.R_alloc | apply Kd.R_drewN | apply Kd.R_drew)); exact HO120.out⟩, ⟨by repeat (first | (with_reducible first | exact HB.out | apply below_alloc | apply pw_below_drewN | apply below_drew1) | exact HB.out)⟩⟩
          case round =>
            clear H'
            try clear p2
            try clear c4
            try clear c4b0
            try clear c4b1
            try clear c5
            try clear c5b0
            try clear c5b1
            try clear c6
            try clear c6b0
            try clear p6
            try clear c7
            try clear c7b0
            try clear p8
            try clear q8
            try clear hx8
            try clear hf8
            try clear hx8_0
            try clear p8
            try clear q8
            obtain ⟨x4_1, x21_1, rfl, HA, HK1, HO_4, HB⟩ := hrel
            cases gk with
            | zero => exact absurd HA.out (by simp [spec_siWays.l0])
            | succ k1 =>
              have H := HA.out
              clear HA
              simp only [spec_siWays.l0] at H
              by_cases c13 : x21_1 < (l0.length : Int)
              · rw [if_pos c13] at H
                have c13b0 : decide (x21_1 < (l0.length : Int)) = true := decide_eq_true c13
                clear c13
                by_cases c14 : 0 ≤ x21_1
                · rw [if_pos c14] at H
                  have c14b0 : decide (0 ≤ x21_1) = true := decide_eq_true c14
                  clear c14
                  by_cases c15 : x21_1 < (l0.length : Int)
                  · rw [if_pos c15] at H
                    have c15b0 : decide (x21_1 < (l0.length : Int)) = true := decide_eq_true c15
                    clear c15
                    obtain ⟨ji16, hji16⟩ : ∃ j_ : Int, (wrap64 ((wrap64 (2 * t117)) + 1)) = j_ := ⟨_, rfl⟩
                    try clear hji3w
                    try clear hji3
                    replace H : (if 0 ≤ (ji16) then (if (ji16 : Int).toNat ≤ 35184372088832 then (spec_siWays.l1 k1 t117 (rd l0 x21_1) (List.replicate (ji16 : Int).toNat 0) l0 (l0.length : Int) x21_1 x4_1 (x4_1.length : Int) 0) else (none)) else (none)) = some r := by first | (rw [hji16] at H; exact H) | (simp only [hji16] at H ⊢; exact H)
                    have hji16w : (IntKind.i64.wrap ((wrap64 (2 * t117)) + 1)) = ji16 := (i64_w _).trans hji16
                    by_cases c17 : 0 ≤ (ji16)
                    · rw [if_pos c17] at H
                      have c17b0 := eq_true c17
                      have c17b1 : decide (0 ≤ (ji16)) = true := decide_eq_true c17
                      clear c17
                      by_cases c18 : (ji16 : Int).toNat ≤ 35184372088832
                      · rw [if_pos c18] at H
                        have c18b0 := eq_true c18
                        have c18b1 : decide ((ji16 : Int).toNat ≤ 35184372088832) = true := decide_eq_true c18
                        clear c18
                        obtain ⟨y123, hy123⟩ : ∃ y_ : List Int, y_ = (List.replicate (ji16 : Int).toNat 0) := ⟨_, rfl⟩
                        replace H : (spec_siWays.l1 k1 t117 (rd l0 x21_1) y123 l0 (l0.length : Int) x21_1 x4_1 (x4_1.length : Int) 0) = some r := by first | (rw [hy123]; with_reducible exact H) | (have H2_ := (Option.bind_some _ _).symm.trans H; rw [hy123]; with_reducible exact H2_) | (have H2_ := (Option.bind_some _ _).symm.trans H; with_reducible exact H2_) | with_reducible exact H | (rw [hy123]; exact H) | exact H
                        have Ny123 := Aside0.mk hy123
                        clear hy123
                        have H' := Aside0.mk H
                        clear H
                        have p122 : 0 ≤ (x21_1 : Int) := of_decide_eq_true (by first | (with_reducible assumption) | assumption)
                        have q122 : x21_1 < (l0.length : Int) := of_decide_eq_true (by first | (with_reducible assumption) | assumption)
                        obtain ⟨ad122, e122, hx122_0⟩ := Kd.at_int HR0.out x21_1 p122 q122
                        cases e122
                        (try replace hx122_0 := (HB.out.cell (World.block_lt_of_cell? w _ hx122_0)).trans hx122_0)
                        replace p122 := eq_true p122
                        replace q122 := eq_true q122
                        go_wp2_with (first | ((with_reducible refine gate_dst (N := 28) rfl ?_); refine Kd.R_make (Kd.int .i64) _ 3 rfl (N := 28) rfl 22 _ _ rfl ji16 rfl rfl Try.underlying22 (.int .i64 0) 8 info3 rfl (by decide) (by omega) 0 (ok := fun _ => True) (okp := fun _ => True) rfl (fun _ hk => hk) trivial (of_decide_eq_true (by first | (with_reducible assumption) | assumption)) (Nat.le_trans (Nat.mul_le_mul_right _ (of_decide_eq_true (by first | (with_reducible assumption) | assumption) : ji16.toNat ≤ 35184372088832)) (by omega)) (Below.refl _ _) (Nat.le_refl _) ?_; intro v124 w19 ho20 hb hg_ hnew_; clear hg_ hnew_; (first | rw [← Ny123.out] at ho20 | (simp only [Int.reduceToNat] at ho20; rw [← Ny123.out] at ho20)); have n0_ := Aside0.mk (Kd.R_elder' (by (with_reducible repeat (first | apply Kd.R_alloc | apply Kd.R_drewN | apply Kd.R_drew)); exact HO_4.out) (Kd.R_base ho20) hb); have n1_ := Aside0.mk (Kd.R_lower (Kd.R_new' ho20 (Kd.R_lt (by (with_reducible repeat (first | apply Kd.R_alloc | apply Kd.R_drewN | apply Kd.R_drew)); exact HO_4.out))) (below_size (by repeat (first | (with_reducible first | exact HB.out | apply below_alloc | apply pw_below_drewN | apply below_drew1) | exact HB.out)))); have n2_ := Aside0.mk (below_step (by repeat (first | (with_reducible first | exact HB.out | apply below_alloc | apply pw_below_drewN | apply below_drew1) | exact HB.out)) hb); clear HO_4; clear HB; have HO_4 := n0_; have HO125 := n1_; have HB := n2_; clear n0_ n1_ n2_; clear hb ho20; obtain ⟨Ao21, co21, eo21⟩ := Kd.R_slice HO_4.out; subst eo21))
                        go_loopg [31] k1 (fun kq v31 w' => ∃ (x7_2 : List Int) (x31_2 : Int), v31 = .int .i64 x31_2 ∧ Aside0 (spec_siWays.l1 kq t117 (rd l0 x21_1) x7_2 l0 (l0.length : Int) x21_1 x4_1 (x4_1.length : Int) x31_2 = some r) ∧ Aside0 (kq ≤ k1) ∧ Aside0 (Kd.R (Kd.int .i64) 3 w' w.heap.size (fun k_ => some k_ ≠ ((.slice Ao21 x4_1.length co21) : Value).ownBlock) v124 x7_2) ∧ Aside0 (Kd.R (Kd.int .i64) 3 w' w.heap.size (fun k_ => some k_ ≠ (v124 : Value).ownBlock) (.slice Ao21 x4_1.length co21) x4_1) ∧ Aside0 (Below w.heap.size w w'))
                        case atStart => exact ⟨(y123), (0), (by first | rfl | (simp; done) | (simp [*]; done)), H', ⟨Nat.le_refl _⟩, ⟨by (with_reducible repeat (first | apply Kd.R_alloc | apply Kd.R_drewN | apply Kd.R_drew)); exact Kd.R_mono HO125.out (fun _ hk => hk.2)⟩, ⟨by (with_reducible repeat (first | apply Kd.R_alloc | apply Kd.R_drewN | apply Kd.R_drew)); exact Kd.R_mono HO_4.out (fun _ hk => hk.2)⟩, ⟨by repeat (first | (with_reducible first | exact HB.out | apply below_alloc | apply pw_below_drewN | apply below_drew1) | exact HB.out)⟩⟩
                        case round =>
                          clear H'
                          try clear c1
                          try clear p1
                          try clear q1
                          try clear hx1
                          try clear p2
                          try clear c4
                          try clear c4b0
                          try clear c4b1
                          try clear c5
                          try clear c5b0
                          try clear c5b1
                          try clear c6
                          try clear c6b0
                          try clear p6
                          try clear c7
                          try clear c7b0
                          try clear p8
                          try clear q8
                          try clear hx8
                          try clear hf8
                          try clear p12
                          try clear q12
                          try clear hx12
                          try clear c13
                          try clear c13b0
                          try clear c14
                          try clear c14b0
                          try clear c15
                          try clear c15b0
                          try clear c17
                          try clear c17b0
                          try clear c17b1
                          try clear c18
                          try clear c18b0
                          try clear c18b1
                          try clear hx122_0
                          try clear hx8_0
                          try clear p122
                          try clear p2
                          try clear p6
                          try clear p8
                          try clear q122
                          try clear q8
                          obtain ⟨x7_2, x31_2, rfl, HA, HK2, HO_7, HO_29, HB⟩ := hrel
                          cases gk with
                          | zero => exact absurd HA.out (by simp [spec_siWays.l1])
                          | succ k2 =>
                            have H := HA.out
                            clear HA
                            simp only [spec_siWays.l1] at H
                            by_cases c22 : x31_2 < (x4_1.length : Int)
                            · rw [if_pos c22] at H
                              have c22b0 : decide (x31_2 < (x4_1.length : Int)) = true := decide_eq_true c22
                              clear c22
                              by_cases c23 : 0 ≤ x31_2
                              · rw [if_pos c23] at H
                                have c23b0 : decide (0 ≤ x31_2) = true := decide_eq_true c23
                                clear c23
                                by_cases c24 : x31_2 < (x4_1.length : Int)
                                · rw [if_pos c24] at H
                                  have c24b0 : decide (x31_2 < (x4_1.length : Int)) = true := decide_eq_true c24
                                  clear c24
                                  by_cases c25 : (rd x4_1 x31_2) > 0
                                  · rw [if_pos c25] at H
                                    have c25b0 : decide (0 < (rd x4_1 x31_2)) = true := decide_eq_true c25
                                    clear c25
                                    by_cases c26 : x31_2 < (x7_2.length : Int)
                                    · rw [if_pos c26] at H
                                      have c26b0 : decide (x31_2 < (x7_2.length : Int)) = true := decide_eq_true c26
                                      clear c26
                                      obtain ⟨y128, hy128⟩ : ∃ y_ : List Int, y_ = (x7_2.set (x31_2 : Int).toNat (wrap64 ((rd x7_2 x31_2) + (rd x4_1 x31_2)))) := ⟨_, rfl⟩
                                      replace H : (if 0 ≤ (wrap64 (x31_2 + (rd l0 x21_1))) then (if (wrap64 (x31_2 + (rd l0 x21_1))) < (x7_2.length : Int) then ((some (y128.set ((wrap64 (x31_2 + (rd l0 x21_1))) : Int).toNat (wrap64 ((rd y128 (wrap64 (x31_2 + (rd l0 x21_1)))) + (rd x4_1 x31_2))) : List Int)).bind fun y130 => (if 0 ≤ (wrap64 (x31_2 - (rd l0 x21_1))) then (if (wrap64 (x31_2 - (rd l0 x21_1))) < (x7_2.length : Int) then (spec_siWays.l1 k2 t117 (rd l0 x21_1) (y130.set ((wrap64 (x31_2 - (rd l0 x21_1))) : Int).toNat (wrap64 ((rd y130 (wrap64 (x31_2 - (rd l0 x21_1)))) + (rd x4_1 x31_2)))) l0 (l0.length : Int) x21_1 x4_1 (x4_1.length : Int) (wrap64 (x31_2 + 1))) else (none)) else (none))) else (none)) else (none)) = some r := by first | (rw [hy128]; with_reducible exact H) | (have H2_ := (Option.bind_some _ _).symm.trans H; rw [hy128]; with_reducible exact H2_) | (have H2_ := (Option.bind_some _ _).symm.trans H; with_reducible exact H2_) | with_reducible exact H | (rw [hy128]; exact H) | exact H
                                      have Ny128 := Aside0.mk hy128
                                      clear hy128
                                      obtain ⟨ji28, hji28⟩ : ∃ j_ : Int, (wrap64 (x31_2 + (rd l0 x21_1))) = j_ := ⟨_, rfl⟩
                                      replace H : (if 0 ≤ (ji28) then (if (ji28) < (x7_2.length : Int) then ((some (y128.set ((ji28) : Int).toNat (wrap64 ((rd y128 (ji28)) + (rd x4_1 x31_2))) : List Int)).bind fun y130 => (if 0 ≤ (wrap64 (x31_2 - (rd l0 x21_1))) then (if (wrap64 (x31_2 - (rd l0 x21_1))) < (x7_2.length : Int) then (spec_siWays.l1 k2 t117 (rd l0 x21_1) (y130.set ((wrap64 (x31_2 - (rd l0 x21_1))) : Int).toNat (wrap64 ((rd y130 (wrap64 (x31_2 - (rd l0 x21_1)))) + (rd x4_1 x31_2)))) l0 (l0.length : Int) x21_1 x4_1 (x4_1.length : Int) (wrap64 (x31_2 + 1))) else (none)) else (none))) else (none)) else (none)) = some r := by first | (rw [hji28] at H; exact H) | (simp only [hji28] at H ⊢; exact H)
                                      have hji28w : (IntKind.i64.wrap (x31_2 + (rd l0 x21_1))) = ji28 := (i64_w _).trans hji28
                                      by_cases c29 : 0 ≤ (ji28)
                                      · rw [if_pos c29] at H
                                        have c29b0 : decide (0 ≤ (ji28)) = true := decide_eq_true c29
                                        clear c29
                                        by_cases c30 : (ji28) < (x7_2.length : Int)
                                        · rw [if_pos c30] at H
                                          have c30b0 : decide ((ji28) < (x7_2.length : Int)) = true := decide_eq_true c30
                                          clear c30
                                          obtain ⟨y130, hy130⟩ : ∃ y_ : List Int, y_ = (y128.set ((ji28) : Int).toNat (wrap64 ((rd y128 (ji28)) + (rd x4_1 x31_2)))) := ⟨_, rfl⟩
                                          replace H : (if 0 ≤ (wrap64 (x31_2 - (rd l0 x21_1))) then (if (wrap64 (x31_2 - (rd l0 x21_1))) < (x7_2.length : Int) then (spec_siWays.l1 k2 t117 (rd l0 x21_1) (y130.set ((wrap64 (x31_2 - (rd l0 x21_1))) : Int).toNat (wrap64 ((rd y130 (wrap64 (x31_2 - (rd l0 x21_1)))) + (rd x4_1 x31_2)))) l0 (l0.length : Int) x21_1 x4_1 (x4_1.length : Int) (wrap64 (x31_2 + 1))) else (none)) else (none)) = some r := by first | (rw [hy130]; with_reducible exact H) | (have H2_ := (Option.bind_some _ _).symm.trans H; rw [hy130]; with_reducible exact H2_) | (have H2_ := (Option.bind_some _ _).symm.trans H; with_reducible exact H2_) | with_reducible exact H | (rw [hy130]; exact H) | exact H
                                          have Ny130 := Aside0.mk hy130
                                          clear hy130
                                          obtain ⟨ji32, hji32⟩ : ∃ j_ : Int, (wrap64 (x31_2 - (rd l0 x21_1))) = j_ := ⟨_, rfl⟩
                                          replace H : (if 0 ≤ (ji32) then (if (ji32) < (x7_2.length : Int) then (spec_siWays.l1 k2 t117 (rd l0 x21_1) (y130.set ((ji32) : Int).toNat (wrap64 ((rd y130 (ji32)) + (rd x4_1 x31_2)))) l0 (l0.length : Int) x21_1 x4_1 (x4_1.length : Int) (wrap64 (x31_2 + 1))) else (none)) else (none)) = some r := by first | (rw [hji32] at H; exact H) | (simp only [hji32] at H ⊢; exact H)
                                          have hji32w : (IntKind.i64.wrap (x31_2 - (rd l0 x21_1))) = ji32 := (i64_w _).trans hji32
                                          by_cases c33 : 0 ≤ (ji32)
                                          · rw [if_pos c33] at H
                                            have c33b0 : decide (0 ≤ (ji32)) = true := decide_eq_true c33
                                            clear c33
                                            by_cases c34 : (ji32) < (x7_2.length : Int)
                                            · rw [if_pos c34] at H
                                              have c34b0 : decide ((ji32) < (x7_2.length : Int)) = true := decide_eq_true c34
                                              clear c34
                                              obtain ⟨y132, hy132⟩ : ∃ y_ : List Int, y_ = (y130.set ((ji32) : Int).toNat (wrap64 ((rd y130 (ji32)) + (rd x4_1 x31_2)))) := ⟨_, rfl⟩
                                              replace H : (spec_siWays.l1 k2 t117 (rd l0 x21_1) y132 l0 (l0.length : Int) x21_1 x4_1 (x4_1.length : Int) (wrap64 (x31_2 + 1))) = some r := by first | (rw [hy132]; with_reducible exact H) | (have H2_ := (Option.bind_some _ _).symm.trans H; rw [hy132]; with_reducible exact H2_) | (have H2_ := (Option.bind_some _ _).symm.trans H; with_reducible exact H2_) | with_reducible exact H | (rw [hy132]; exact H) | exact H
                                              have Ny132 := Aside0.mk hy132
                                              clear hy132
                                              have H' := Aside0.mk H
                                              clear H
                                              have p126 : 0 ≤ (x31_2 : Int) := of_decide_eq_true (by first | (with_reducible assumption) | assumption)
                                              have q126 : x31_2 < (x4_1.length : Int) := of_decide_eq_true (by first | (with_reducible assumption) | assumption)
                                              obtain ⟨ad126, e126, hx126_0⟩ := Kd.at_int (Kd.R_reads' HO_29.out).2.2 x31_2 p126 q126
                                              cases e126
                                              replace p126 := eq_true p126
                                              replace q126 := eq_true q126
                                              obtain ⟨Ao36, co36, eo36⟩ := Kd.R_slice HO_7.out
                                              subst eo36
                                              have p127 : 0 ≤ (x31_2 : Int) := of_decide_eq_true (by first | (with_reducible assumption) | assumption)
                                              have q127 : x31_2 < (x7_2.length : Int) := of_decide_eq_true (by first | (with_reducible assumption) | assumption)
                                              obtain ⟨ad127, e127, hx127_0⟩ := Kd.at_int (Kd.R_reads' HO_7.out).2.2 x31_2 p127 q127
                                              cases e127
                                              replace p127 := eq_true p127
                                              replace q127 := eq_true q127
                                              have p27 : 0 ≤ (x31_2 : Int) := of_decide_eq_true (by first | (with_reducible assumption) | assumption)
                                              have q27 : (x31_2 : Int) < ((x7_2.length : Int) : Int) := of_decide_eq_true (by first | (with_reducible assumption) | assumption)
                                              obtain ⟨go27, co27, eo27, gb27, gl27, cl27, HG27⟩ := Kd.R_form HO_7.out (by omega)
                                              (first | cases eo27 | (injection eo27 with ea_ en_ ec_; (first | subst ea_ | (injection ea_ with ea_; subst ea_)); subst ec_; clear en_))
                                              have GB27 := Aside0.mk gb27
                                              have GG27 := Aside0.mk HG27
                                              clear gb27 gl27 HG27
                                              (first | simp only [add_plain] at hx127_0 | skip)
                                              obtain ⟨hx27_0, hf27_0⟩ := Kd.R_celln 0 HO_7.out (x31_2 : Int) p27 q27
                                              replace p27 := eq_true p27
                                              replace q27 := eq_true q27
                                              have HP37 := Kd.R_putg HO_7.out (x31_2 : Int) (wrap64 ((rd x7_2 x31_2) + (rd x4_1 x31_2)))
                                              go_wp2_with (first | ((with_reducible refine gate_store (t := 3) (p := 44) rfl ?_); refine store_event (t := 3) (p := 44) (v := ?vo_w38) (w1 := (wr.setCell ⟨go27, (x31_2 : Int).toNat, none⟩ (.int .i64 (wrap64 ((rd x7_2 x31_2) + (rd x4_1 x31_2)))))) ?hg ?ho ?hn ?hr ?_; (case ho => rfl); (case hg => rfl); (case hn => rfl); (case hr => first | (go_simp; done) | (go_simp; rfl)); intro w38 hw; have hg : wr.grownBy w38 (some go27) := (by rw [hw]; exact HP37.2); have hp_ : Kd.R (Kd.int .i64) 3 w38 w.heap.size (fun k_ => some k_ ≠ (.slice (some ad126) x4_1.length co21 : Value).ownBlock) (.slice (some ⟨go27, 0, none⟩) x7_2.length co36) y128 := (by rw [hw, Ny128.out]; exact HP37.1); clear HP37; have n0_ := Aside0.mk (hp_); have n1_ := Aside0.mk (Kd.R_after (v := (.slice (some ⟨go27, 0, none⟩) x7_2.length co36)) (v1 := (.slice (some ⟨go27, 0, none⟩) x7_2.length co36)) (ok := (fun _ => True)) (by (with_reducible repeat (first | apply Kd.R_alloc | apply Kd.R_drewN | apply Kd.R_drew)); exact Kd.R_mono HO_29.out (fun _ hk => ⟨trivial, hk⟩)) hg (.inl rfl)); have n2_ := Aside0.mk ((by rw [hw]; exact below_set (HB.out) GB27.out : Below w.heap.size w w38)); clear HO_7; clear HO_29; clear HB; have HO_7 := n0_; have HO_29 := n1_; have HB := n2_; clear n0_ n1_ n2_; clear hg hw hp_; have p129 : 0 ≤ ((ji28) : Int) := of_decide_eq_true (by first | (with_reducible assumption) | assumption); have q129 : (ji28) < (y128.length : Int) := (by have h_ : ((ji28) : Int) < ((x7_2.length : Int) : Int) := of_decide_eq_true (by first | (with_reducible assumption) | assumption); first | (have e_ := (Kd.R_reads' HO_7.out).1; omega) | simpa only [Ny128.out, List.length_set] using h_); have ql129 : (((ji28) : Int) < ((x7_2.length : Int) : Int)) = True := eq_true (of_decide_eq_true (by first | (with_reducible assumption) | assumption)); obtain ⟨ad129, e129, hx129_0⟩ := Kd.at_int (Kd.R_reads' HO_7.out).2.2 (ji28) p129 q129; obtain rfl : (⟨go27, 0, none⟩ : Addr) = ad129 := (by injection e129); (first | simp only [add_plain] at hx129_0 | simp only [add_at] at hx129_0 | simp only [Addr.add, Nat.zero_add] at hx129_0 | skip); replace p129 := eq_true p129; replace q129 := eq_true q129; have p31 : 0 ≤ ((ji28) : Int) := of_decide_eq_true (by first | (with_reducible assumption) | assumption); have q31 : ((ji28) : Int) < ((x7_2.length : Int) : Int) := of_decide_eq_true (by first | (with_reducible assumption) | assumption); obtain ⟨hx31_0, hf31_0⟩ := Kd.R_celln 0 HO_7.out ((ji28) : Int) p31 q31; replace p31 := eq_true p31; replace q31 := eq_true q31; obtain ⟨hy39_, hz39_⟩ := Kd.R_celln 0 HO_7.out ((ji28) : Int) (of_decide_eq_true (by first | (with_reducible assumption) | assumption)) (of_decide_eq_true (by first | (with_reducible assumption) | assumption)); have HP39 := Kd.R_putg HO_7.out ((ji28) : Int) (wrap64 ((rd y128 (ji28)) + (rd x4_1 x31_2)))) | ((with_reducible refine gate_store (t := 3) (p := 53) rfl ?_); refine store_event (t := 3) (p := 53) (v := ?vo_w40) (w1 := (w38.setCell ⟨go27, ((ji28) : Int).toNat, none⟩ (.int .i64 (wrap64 ((rd y128 (ji28)) + (rd x4_1 x31_2)))))) ?hg ?ho ?hn ?hr ?_; (case ho => rfl); (case hg => rfl); (case hn => rfl); (case hr => first | (go_simp; done) | (go_simp; rfl)); intro w40 hw; have hg : w38.grownBy w40 (some go27) := (by rw [hw]; exact HP39.2); have hp_ : Kd.R (Kd.int .i64) 3 w40 w.heap.size (fun k_ => some k_ ≠ (.slice (some ad126) x4_1.length co21 : Value).ownBlock) (.slice (some ⟨go27, 0, none⟩) x7_2.length co36) y130 := (by rw [hw, Ny130.out]; exact HP39.1); clear HP39; have n0_ := Aside0.mk (hp_); have n1_ := Aside0.mk (Kd.R_after (v := (.slice (some ⟨go27, 0, none⟩) x7_2.length co36)) (v1 := (.slice (some ⟨go27, 0, none⟩) x7_2.length co36)) (ok := (fun _ => True)) (by (with_reducible repeat (first | apply Kd.R_alloc | apply Kd.R_drewN | apply Kd.R_drew)); exact HO_29.out) hg (.inl rfl)); have n2_ := Aside0.mk ((by rw [hw]; exact below_set (HB.out) GB27.out : Below w.heap.size w w40)); clear HO_7; clear HO_29; clear HB; have HO_7 := n0_; have HO_29 := n1_; have HB := n2_; clear n0_ n1_ n2_; clear hg hw hp_; have p131 : 0 ≤ ((ji32) : Int) := of_decide_eq_true (by first | (with_reducible assumption) | assumption); have q131 : (ji32) < (y130.length : Int) := (by have h_ : ((ji32) : Int) < ((x7_2.length : Int) : Int) := of_decide_eq_true (by first | (with_reducible assumption) | assumption); first | (have e_ := (Kd.R_reads' HO_7.out).1; omega) | simpa only [Ny128.out, Ny130.out, List.length_set] using h_); have ql131 : (((ji32) : Int) < ((x7_2.length : Int) : Int)) = True := eq_true (of_decide_eq_true (by first | (with_reducible assumption) | assumption)); obtain ⟨ad131, e131, hx131_0⟩ := Kd.at_int (Kd.R_reads' HO_7.out).2.2 (ji32) p131 q131; obtain rfl : (⟨go27, 0, none⟩ : Addr) = ad131 := (by injection e131); (first | simp only [add_plain] at hx131_0 | simp only [add_at] at hx131_0 | simp only [Addr.add, Nat.zero_add] at hx131_0 | skip); replace p131 := eq_true p131; replace q131 := eq_true q131; have p35 : 0 ≤ ((ji32) : Int) := of_decide_eq_true (by first | (with_reducible assumption) | assumption); have q35 : ((ji32) : Int) < ((x7_2.length : Int) : Int) := of_decide_eq_true (by first | (with_reducible assumption) | assumption); obtain ⟨hx35_0, hf35_0⟩ := Kd.R_celln 0 HO_7.out ((ji32) : Int) p35 q35; replace p35 := eq_true p35; replace q35 := eq_true q35; obtain ⟨hy41_, hz41_⟩ := Kd.R_celln 0 HO_7.out ((ji32) : Int) (of_decide_eq_true (by first | (with_reducible assumption) | assumption)) (of_decide_eq_true (by first | (with_reducible assumption) | assumption)); have HP41 := Kd.R_putg HO_7.out ((ji32) : Int) (wrap64 ((rd y130 (ji32)) + (rd x4_1 x31_2)))) | ((with_reducible refine gate_store (t := 3) (p := 62) rfl ?_); refine store_event (t := 3) (p := 62) (v := ?vo_w42) (w1 := (w40.setCell ⟨go27, ((ji32) : Int).toNat, none⟩ (.int .i64 (wrap64 ((rd y130 (ji32)) + (rd x4_1 x31_2)))))) ?hg ?ho ?hn ?hr ?_; (case ho => rfl); (case hg => rfl); (case hn => rfl); (case hr => first | (go_simp; done) | (go_simp; rfl)); intro w42 hw; have hg : w40.grownBy w42 (some go27) := (by rw [hw]; exact HP41.2); have hp_ : Kd.R (Kd.int .i64) 3 w42 w.heap.size (fun k_ => some k_ ≠ (.slice (some ad126) x4_1.length co21 : Value).ownBlock) (.slice (some ⟨go27, 0, none⟩) x7_2.length co36) y132 := (by rw [hw, Ny132.out]; exact HP41.1); clear HP41; have n0_ := Aside0.mk (hp_); have n1_ := Aside0.mk (Kd.R_after (v := (.slice (some ⟨go27, 0, none⟩) x7_2.length co36)) (v1 := (.slice (some ⟨go27, 0, none⟩) x7_2.length co36)) (ok := (fun _ => True)) (by (with_reducible repeat (first | apply Kd.R_alloc | apply Kd.R_drewN | apply Kd.R_drew)); exact HO_29.out) hg (.inl rfl)); have n2_ := Aside0.mk ((by rw [hw]; exact below_set (HB.out) GB27.out : Below w.heap.size w w42)); clear HO_7; clear HO_29; clear HB; have HO_7 := n0_; have HO_29 := n1_; have HB := n2_; clear n0_ n1_ n2_; clear hg hw hp_))
                                              go_roundg k2
                                              case measure => have := HK1.out; have := HK2.out; omega
                                              case rel => exact ⟨(y132), (wrap64 (x31_2 + 1)), (by first | rfl | (simp; done) | (simp [*]; done)), H', ⟨by have := HK1.out; have := HK2.out; omega⟩, ⟨by (with_reducible repeat (first | apply Kd.R_alloc | apply Kd.R_drewN | apply Kd.R_drew)); exact HO_7.out⟩, ⟨by (with_reducible repeat (first | apply Kd.R_alloc | apply Kd.R_drewN | apply Kd.R_drew)); exact Kd.R_mono HO_29.out (fun _ hk => hk.2)⟩, ⟨by repeat (first | (with_reducible first | exact HB.out | apply below_alloc | apply pw_below_drewN | apply below_drew1) | exact HB.out)⟩⟩
                                            · rw [if_neg c34] at H
                                              exact absurd H (by simp)
                                          · rw [if_neg c33] at H
                                            exact absurd H (by simp)
                                        · rw [if_neg c30] at H
                                          exact absurd H (by simp)
                                      · rw [if_neg c29] at H
                                        exact absurd H (by simp)
                                    · rw [if_neg c26] at H
                                      exact absurd H (by simp)
                                  · rw [if_neg c25] at H
                                    have c25b0 : decide (0 < (rd x4_1 x31_2)) = false := decide_eq_false c25
                                    clear c25
                                    have H' := Aside0.mk H
                                    clear H
                                    have p126 : 0 ≤ (x31_2 : Int) := of_decide_eq_true (by first | (with_reducible assumption) | assumption)
                                    have q126 : x31_2 < (x4_1.length : Int) := of_decide_eq_true (by first | (with_reducible assumption) | assumption)
                                    obtain ⟨ad126, e126, hx126_0⟩ := Kd.at_int (Kd.R_reads' HO_29.out).2.2 x31_2 p126 q126
                                    cases e126
                                    replace p126 := eq_true p126
                                    replace q126 := eq_true q126
                                    go_wp2
                                    go_roundg k2
                                    case measure => have := HK1.out; have := HK2.out; omega
                                    case rel => exact ⟨(x7_2), (wrap64 (x31_2 + 1)), (by first | rfl | (simp; done) | (simp [*]; done)), H', ⟨by have := HK1.out; have := HK2.out; omega⟩, ⟨by (with_reducible repeat (first | apply Kd.R_alloc | apply Kd.R_drewN | apply Kd.R_drew)); exact HO_7.out⟩, ⟨by (with_reducible repeat (first | apply Kd.R_alloc | apply Kd.R_drewN | apply Kd.R_drew)); exact HO_29.out⟩, ⟨by repeat (first | (with_reducible first | exact HB.out | apply below_alloc | apply pw_below_drewN | apply below_drew1) | exact HB.out)⟩⟩
                                · rw [if_neg c24] at H
                                  exact absurd H (by simp)
                              · rw [if_neg c23] at H
                                exact absurd H (by simp)
                            · rw [if_neg c22] at H
                              have c22b0 : decide (x31_2 < (x4_1.length : Int)) = false := decide_eq_false c22
                              clear c22
                              have H' := Aside0.mk H
                              clear H
                              go_wp2
                              go_roundg k2
                              case measure => have := HK1.out; have := HK2.out; omega
                              case rel => exact ⟨(x7_2), (wrap64 (x21_1 + 1)), (by first | rfl | (simp; done) | (simp [*]; done)), H', ⟨by have := HK1.out; have := HK2.out; omega⟩, ⟨by (with_reducible repeat (first | apply Kd.R_alloc | apply Kd.R_drewN | apply Kd.R_drew)); exact Kd.R_mono HO_7.out (fun _ hk => trivial)⟩, ⟨by repeat (first | (with_reducible first | exact HB.out | apply below_alloc | apply pw_below_drewN | apply below_drew1) | exact HB.out)⟩⟩
                      · rw [if_neg c18] at H
                        exact absurd H (by simp)
                    · rw [if_neg c17] at H
                      exact absurd H (by simp)
                  · rw [if_neg c15] at H
                    exact absurd H (by simp)
                · rw [if_neg c14] at H
                  exact absurd H (by simp)
              · rw [if_neg c13] at H
                have c13b0 : decide (x21_1 < (l0.length : Int)) = false := decide_eq_false c13
                clear c13
                obtain rfl := Option.some.inj H
                go_wp2
                go_ret
                exact ⟨_, by first | rfl | (simp [errW_none, errW_some] <;> rfl) | (simp only [← hji3]; first | rfl | (simp [errW_none, errW_some] <;> rfl)) | (simp [*, errW_none, errW_some] <;> rfl), by (with_reducible repeat (first | apply Kd.R_alloc | apply Kd.R_drewN | apply Kd.R_drew)); exact HO_4.out, by repeat (first | (with_reducible first | exact HB.out | apply below_alloc | apply pw_below_drewN | apply below_drew1) | exact HB.out)⟩
        · rw [if_neg c7] at H
          exact absurd H (by simp)
      · rw [if_neg c6] at H
        exact absurd H (by simp)
    · rw [if_neg c5] at H
      exact absurd H (by simp)
  · rw [if_neg c4] at H
    exact absurd H (by simp)

/-! ### spec_siMake: function 45 -/
def spec_siMake.f (k : Nat) (l0 : List Int) (a1 : Int) : Option (Int) := (spec_piSum.f k l0).bind fun t133 => ((spec_l1In.f a1 (wrap64 (-t133)) t133).bind fun t134 => (if t134 = true then ((spec_siWays.f k l0).bind fun t135 => (if 0 ≤ (wrap64 (t133 + a1)) then (if (wrap64 (t133 + a1)) < (t135.length : Int) then (some (rd t135 (wrap64 (t133 + a1)))) else (none)) else (none))) else (some 0)))
theorem spec_siMake.mono : ∀ a0 a1 k, LeO (spec_siMake.f k a0 a1) (spec_siMake.f (k + 1) a0 a1) := by
  intro a0 a1 k
  unfold spec_siMake.f
  repeat' first
      | (with_reducible exact spec_piSum.mono _ _)
      | (with_reducible exact spec_siWays.mono _ _)
      | (with_reducible exact LeO.refl _)
      | (with_reducible exact LeO.none _)
      | (with_reducible refine LeO.ite ?_ ?_)
      | (with_reducible refine LeO.bind ?_ (fun _ => ?_))
      | exact spec_piSum.mono _ _
      | exact spec_siWays.mono _ _
      | exact LeO.none _
      | refine LeO.ite ?_ ?_
      | refine LeO.bind ?_ (fun _ => ?_)
set_option maxHeartbeats 8000000 in
set_option maxRecDepth 100000 in
theorem spec_siMake.calls (k : Nat) (A0 : Option Addr) (c0 : Nat) (l0 : List Int) (a1 : Int) (r : Int) (w : World) (hr0 : Kd.C (Kd.int .i64) w A0 l0.length l0) (hc0 : l0.length ≤ c0) (h : spec_siMake.f k l0 a1 = some r) :
    Calls Try.prog 45 #[.slice A0 l0.length c0, .int .i64 a1] w fun e w' => e = .returned (.int .i64 r) ∧ Below w.heap.size w w' := by
  have HR0 := Aside0.mk hr0
  have HC0 := Aside0.mk hc0
  clear hr0 hc0
  have HB := Aside0.mk (Below.refl w.heap.size w)
  have H : ((spec_piSum.f k l0).bind fun t133 => ((spec_l1In.f a1 (wrap64 (-t133)) t133).bind fun t134 => (if t134 = true then ((spec_siWays.f k l0).bind fun t135 => (if 0 ≤ (wrap64 (t133 + a1)) then (if (wrap64 (t133 + a1)) < (t135.length : Int) then (some (rd t135 (wrap64 (t133 + a1)))) else (none)) else (none))) else (some 0)))) = some r := h
  clear h
  replace H := Option.bind_eq_some_iff.mp H
  obtain ⟨t133, A30, H⟩ := H
  replace H : ((spec_l1In.f a1 (wrap64 (-t133)) t133).bind fun t134 => (if t134 = true then ((spec_siWays.f k l0).bind fun t135 => (if 0 ≤ (wrap64 (t133 + a1)) then (if (wrap64 (t133 + a1)) < (t135.length : Int) then (some (rd t135 (wrap64 (t133 + a1)))) else (none)) else (none))) else (some 0))) = some r := H
  have A3 := Aside0.mk A30
  clear A30
  replace H := Option.bind_eq_some_iff.mp H
  obtain ⟨t134, A40, H⟩ := H
  replace H : (if t134 = true then ((spec_siWays.f k l0).bind fun t135 => (if 0 ≤ (wrap64 (t133 + a1)) then (if (wrap64 (t133 + a1)) < (t135.length : Int) then (some (rd t135 (wrap64 (t133 + a1)))) else (none)) else (none))) else (some 0)) = some r := H
  have A4 := Aside0.mk A40
  clear A40
  by_cases c5 : t134 = true
  · subst c5
    have H1 : ((spec_siWays.f k l0).bind fun t135 => (if 0 ≤ (wrap64 (t133 + a1)) then (if (wrap64 (t133 + a1)) < (t135.length : Int) then (some (rd t135 (wrap64 (t133 + a1)))) else (none)) else (none))) = some r := by rw [if_pos rfl] at H; exact H
    clear H
    have H := H1
    clear H1
    replace H := Option.bind_eq_some_iff.mp H
    obtain ⟨t135, A60, H⟩ := H
    replace H : (if 0 ≤ (wrap64 (t133 + a1)) then (if (wrap64 (t133 + a1)) < (t135.length : Int) then (some (rd t135 (wrap64 (t133 + a1)))) else (none)) else (none)) = some r := H
    have A6 := Aside0.mk A60
    clear A60
    obtain ⟨ji7, hji7⟩ : ∃ j_ : Int, (wrap64 (t133 + a1)) = j_ := ⟨_, rfl⟩
    replace H : (if 0 ≤ (ji7) then (if (ji7) < (t135.length : Int) then (some (rd t135 (ji7))) else (none)) else (none)) = some r := by first | (rw [hji7] at H; exact H) | (simp only [hji7] at H ⊢; exact H)
    (try rw [hji7] at A3)
    (try rw [hji7] at A4)
    (try rw [hji7] at A6)
    have hji7w : (IntKind.i64.wrap (t133 + a1)) = ji7 := (i64_w _).trans hji7
    by_cases c8 : 0 ≤ (ji7)
    · rw [if_pos c8] at H
      have c8b0 : decide (0 ≤ (ji7)) = true := decide_eq_true c8
      clear c8
      by_cases c9 : (ji7) < (t135.length : Int)
      · rw [if_pos c9] at H
        have c9b0 : decide ((ji7) < (t135.length : Int)) = true := decide_eq_true c9
        clear c9
        obtain rfl := Option.some.inj H
        go_enter Try.func45, Try.ntmps45
        go_wp2_with (first | ((with_reducible refine gate_callee (f := 41) rfl ?_); refine goesL_ (some 7) rfl rfl Try.func41 (by kernel_rfl) rfl #[.slice A0 l0.length c0] rfl (by (try simp only [List.map_toArray, List.map_cons, List.map_nil]); first | done | rfl | (simp only [List.length_drop, List.length_take]; rfl)) ?_; (with_reducible refine (spec_piSum.calls k _ _ l0 t133 _ ?side1 ?side2 A3.out).mono ?_); (case side1 => repeat (first | exact HR0.out | (with_reducible refine Kd.C_alloc ?_ _) | (with_reducible refine Kd.C_drewN ?_ _) | (with_reducible refine Kd.C_drew ?_))); (case side2 => exact HC0.out); rintro e w' ⟨rfl, ⟨nd, rfl⟩⟩; refine ⟨_, rfl, ?_⟩) | ((with_reducible refine gate_callee (f := 40) rfl ?_); refine goesL_ (some 12) rfl rfl Try.func40 (by kernel_rfl) rfl #[.int .i64 a1, .int .i64 (wrap64 (-t133)), .int .i64 t133] rfl (by (try simp only [List.map_toArray, List.map_cons, List.map_nil]); first | done | rfl | (simp only [List.length_drop, List.length_take]; rfl)) ?_; (with_reducible refine (spec_l1In.calls a1 (wrap64 (-t133)) t133 true _ A4.out).mono ?_); rintro e w' ⟨rfl, ⟨nd, rfl⟩⟩; refine ⟨_, rfl, ?_⟩) | ((with_reducible refine gate_callee (f := 50) rfl ?_); refine goesL_ (some 15) rfl rfl Try.func50 (by kernel_rfl) rfl #[.slice A0 l0.length c0] rfl (by (try simp only [List.map_toArray, List.map_cons, List.map_nil]); first | done | rfl | (simp only [List.length_drop, List.length_take]; rfl)) ?_; (with_reducible refine (spec_siWays.calls k _ _ l0 t135 _ ?side1 ?side2 A6.out).mono ?_); (case side1 => repeat (first | exact HR0.out | (with_reducible refine Kd.C_alloc ?_ _) | (with_reducible refine Kd.C_drewN ?_ _) | (with_reducible refine Kd.C_drew ?_))); (case side2 => exact HC0.out); rintro e w10 ⟨v136, rfl, ho0, hb⟩; refine ⟨_, rfl, ?_⟩; have n0_ := Aside0.mk (Kd.R_lower ho0 (below_size (by repeat (first | (with_reducible first | exact HB.out | apply below_alloc | apply pw_below_drewN | apply below_drew1) | exact HB.out)))); have n1_ := Aside0.mk (below_step (by repeat (first | (with_reducible first | exact HB.out | apply below_alloc | apply pw_below_drewN | apply below_drew1) | exact HB.out)) hb); clear HB; have HO137 := n0_; have HB := n1_; clear n0_ n1_; (try clear hb); (try clear hb2); (try clear hk); (try clear hi); (try clear ho0); obtain ⟨Ao11, co11, eo11⟩ := Kd.R_slice HO137.out; subst eo11; have p138 : 0 ≤ ((ji7) : Int) := of_decide_eq_true (by first | (with_reducible assumption) | assumption); have q138 : (ji7) < (t135.length : Int) := of_decide_eq_true (by first | (with_reducible assumption) | assumption); obtain ⟨ad138, e138, hx138_0⟩ := Kd.at_int (Kd.R_reads' HO137.out).2.2 (ji7) p138 q138; cases e138; replace p138 := eq_true p138; replace q138 := eq_true q138))
        go_ret
        exact ⟨by first | rfl | (simp [errW_none, errW_some] <;> rfl) | (simp only [← hji7]; first | rfl | (simp [errW_none, errW_some] <;> rfl)) | (simp [*, errW_none, errW_some] <;> rfl), by repeat (first | (with_reducible first | exact HB.out | apply below_alloc | apply pw_below_drewN | apply below_drew1) | exact HB.out)⟩
      · rw [if_neg c9] at H
        exact absurd H (by simp)
    · rw [if_neg c8] at H
      exact absurd H (by simp)
  · replace c5 := Bool.eq_false_iff.mpr c5
    subst c5
    have H1 : (some 0) = some r := by rw [if_neg (show ¬ (false = true) by decide)] at H; exact H
    clear H
    have H := H1
    clear H1
    obtain rfl := Option.some.inj H
    go_enter Try.func45, Try.ntmps45
    go_wp2_with (first | ((with_reducible refine gate_callee (f := 41) rfl ?_); refine goesL_ (some 7) rfl rfl Try.func41 (by kernel_rfl) rfl #[.slice A0 l0.length c0] rfl (by (try simp only [List.map_toArray, List.map_cons, List.map_nil]); first | done | rfl | (simp only [List.length_drop, List.length_take]; rfl)) ?_; (with_reducible refine (spec_piSum.calls k _ _ l0 t133 _ ?side1 ?side2 A3.out).mono ?_); (case side1 => repeat (first | exact HR0.out | (with_reducible refine Kd.C_alloc ?_ _) | (with_reducible refine Kd.C_drewN ?_ _) | (with_reducible refine Kd.C_drew ?_))); (case side2 => exact HC0.out); rintro e w' ⟨rfl, ⟨nd, rfl⟩⟩; refine ⟨_, rfl, ?_⟩) | ((with_reducible refine gate_callee (f := 40) rfl ?_); refine goesL_ (some 12) rfl rfl Try.func40 (by kernel_rfl) rfl #[.int .i64 a1, .int .i64 (wrap64 (-t133)), .int .i64 t133] rfl (by (try simp only [List.map_toArray, List.map_cons, List.map_nil]); first | done | rfl | (simp only [List.length_drop, List.length_take]; rfl)) ?_; (with_reducible refine (spec_l1In.calls a1 (wrap64 (-t133)) t133 false _ A4.out).mono ?_); rintro e w' ⟨rfl, ⟨nd, rfl⟩⟩; refine ⟨_, rfl, ?_⟩))
    go_ret
    exact ⟨by first | rfl | (simp [errW_none, errW_some] <;> rfl) | (simp [*, errW_none, errW_some] <;> rfl), by repeat (first | (with_reducible first | exact HB.out | apply below_alloc | apply pw_below_drewN | apply below_drew1) | exact HB.out)⟩

end Go.Proofs.Ytobcoaafbekhaaa.Fb
