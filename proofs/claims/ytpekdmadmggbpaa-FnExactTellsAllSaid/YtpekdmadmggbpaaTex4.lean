/- Functions of the program and of the reference as Lean functions, and the contracts of their calls: laid by a program of this repo (wip/gen.py), in part by hand. -/
import Derived.Test.YtpekdmadmggbpaaTex0
namespace Go.Proofs.Ytpekdmadmggbpaa.Te
open Go.RowKit Go.Proofs.YtpekdmadmggbpaaW.PrintWords Go.Proofs.YtpekdmadmggbpaaW.PrintLast Go.Proofs.YtpekdmadmggbpaaW.PrintMore
attribute [local go_sem] max2_int min2_int max_two min_two max_three min_three max_four min_four   -- for this text's walks alone
set_option linter.unusedVariables false
set_option linter.unusedSimpArgs false

/-! ### spec_l1Has: function 47 -/
def spec_l1Has.l0 : Nat → Int → List Int → Int → Int → Option (Bool)
  | 0, _, _, _, _ => none
  | k + 1, x1, x7, x8, x9 => if x9 < x8 then (if 0 ≤ x9 then (if x9 < (x7.length : Int) then (if (rd x7 x9) = x1 then (some true) else (spec_l1Has.l0 k x1 x7 x8 (wrap64 (x9 + 1)))) else (none)) else (none)) else (some false)
def spec_l1Has.f (k : Nat) (l0 : List Int) (a1 : Int) : Option (Bool) := spec_l1Has.l0 k a1 l0 (l0.length : Int) 0
theorem spec_l1Has.mono_l : ∀ k, (∀ y0 y1 y2 y3, LeO (spec_l1Has.l0 k y0 y1 y2 y3) (spec_l1Has.l0 (k + 1) y0 y1 y2 y3))
  | 0 => fun _ _ _ _ r h => by simp [spec_l1Has.l0] at h
  | k + 1 => by
    have ih0 := spec_l1Has.mono_l k
    · intro y0 y1 y2 y3
      unfold spec_l1Has.l0
      repeat' first
      | (with_reducible exact ih0 _ _ _ _)
      | (with_reducible exact LeO.refl _)
      | (with_reducible exact LeO.none _)
      | (with_reducible refine LeO.ite ?_ ?_)
      | (with_reducible refine LeO.bind ?_ (fun _ => ?_))
      | exact ih0 _ _ _ _
      | exact LeO.none _
      | refine LeO.ite ?_ ?_
      | refine LeO.bind ?_ (fun _ => ?_)
theorem spec_l1Has.mono : ∀ a0 a1 k, LeO (spec_l1Has.f k a0 a1) (spec_l1Has.f (k + 1) a0 a1) := by
  intro a0 a1 k
  have ih0 := spec_l1Has.mono_l k
  unfold spec_l1Has.f
  repeat' first
      | (with_reducible exact ih0 _ _ _ _)
      | (with_reducible exact LeO.refl _)
      | (with_reducible exact LeO.none _)
      | (with_reducible refine LeO.ite ?_ ?_)
      | (with_reducible refine LeO.bind ?_ (fun _ => ?_))
      | exact ih0 _ _ _ _
      | exact LeO.none _
      | refine LeO.ite ?_ ?_
      | refine LeO.bind ?_ (fun _ => ?_)
set_option maxHeartbeats 8000000 in
set_option maxRecDepth 100000 in
theorem spec_l1Has.calls (k : Nat) (A0 : Option Addr) (c0 : Nat) (l0 : List Int) (a1 : Int) (r : Bool) (w : World) (hr0 : Kd.C (Kd.int .i64) w A0 l0.length l0) (hc0 : l0.length ≤ c0) (h : spec_l1Has.f k l0 a1 = some r) :
    Calls Try.prog 47 #[.slice A0 l0.length c0, .int .i64 a1] w fun e w' => e = .returned (.bool r) ∧ Drawn0 w w' := by
  have HR0 := Aside0.mk hr0
  have HC0 := Aside0.mk hc0
  clear hr0 hc0
  have H : (spec_l1Has.l0 k a1 l0 (l0.length : Int) 0) = some r := h
  clear h
  have H' := Aside0.mk H
  clear H
  go_enter Try.func47, Try.ntmps47
  go_wp2
  go_loopg [9] k (fun kq v9 w' => ∃ (x9_1 : Int), v9 = .int .i64 x9_1 ∧ Aside0 (spec_l1Has.l0 kq a1 l0 (l0.length : Int) x9_1 = some r) ∧ Aside0 (kq ≤ k) ∧ Drawn0 w w')
  case atStart => exact ⟨(0), (by first | rfl | (simp; done) | (simp [*]; done)), H', ⟨Nat.le_refl _⟩, by repeat (first | exact Drawn0.refl _ | apply Drawn0.step)⟩
  case round =>
    clear H'
    try clear p2
    obtain ⟨x9_1, rfl, HA, HK1, ⟨m1, rfl⟩⟩ := hrel
    cases gk with
    | zero => exact absurd HA.out (by simp [spec_l1Has.l0])
    | succ k1 =>
      have H := HA.out
      clear HA
      simp only [spec_l1Has.l0] at H
      by_cases c3 : x9_1 < (l0.length : Int)
      · rw [if_pos c3] at H
        have c3b0 : decide (x9_1 < (l0.length : Int)) = true := decide_eq_true c3
        clear c3
        by_cases c4 : 0 ≤ x9_1
        · rw [if_pos c4] at H
          have c4b0 : decide (0 ≤ x9_1) = true := decide_eq_true c4
          clear c4
          by_cases c5 : x9_1 < (l0.length : Int)
          · rw [if_pos c5] at H
            have c5b0 : decide (x9_1 < (l0.length : Int)) = true := decide_eq_true c5
            clear c5
            by_cases c6 : (rd l0 x9_1) = a1
            · rw [if_pos c6] at H
              have c6b0 : ((rd l0 x9_1) == a1) = true := beq_iff_eq.mpr c6
              have c6b1 : ((rd l0 x9_1) != a1) = false := bne_eq_false_iff_eq.mpr c6
              clear c6
              obtain rfl := Option.some.inj H
              have p139 : 0 ≤ (x9_1 : Int) := of_decide_eq_true (by first | (with_reducible assumption) | assumption)
              have q139 : x9_1 < (l0.length : Int) := of_decide_eq_true (by first | (with_reducible assumption) | assumption)
              obtain ⟨ad139, e139, hx139_0⟩ := Kd.at_int HR0.out x9_1 p139 q139
              cases e139
              replace p139 := eq_true p139
              replace q139 := eq_true q139
              go_wp2
              go_ret
              exact ⟨by first | rfl | (simp; done) | (simp [*]; done), by repeat (first | exact Drawn0.refl _ | apply Drawn0.step)⟩
            · rw [if_neg c6] at H
              have c6b0 : ((rd l0 x9_1) == a1) = false := beq_eq_false_iff_ne.mpr c6
              have c6b1 : ((rd l0 x9_1) != a1) = true := bne_iff_ne.mpr c6
              have H' := Aside0.mk H
              clear H
              have p139 : 0 ≤ (x9_1 : Int) := of_decide_eq_true (by first | (with_reducible assumption) | assumption)
              have q139 : x9_1 < (l0.length : Int) := of_decide_eq_true (by first | (with_reducible assumption) | assumption)
              obtain ⟨ad139, e139, hx139_0⟩ := Kd.at_int HR0.out x9_1 p139 q139
              cases e139
              replace p139 := eq_true p139
              replace q139 := eq_true q139
              go_wp2
              go_roundg k1
              case measure => have := HK1.out; omega
              case rel => exact ⟨(wrap64 (x9_1 + 1)), (by first | rfl | (simp; done) | (simp [*]; done)), H', ⟨by have := HK1.out; omega⟩, by repeat (first | exact Drawn0.refl _ | apply Drawn0.step)⟩
          · rw [if_neg c5] at H
            exact absurd H (by simp)
        · rw [if_neg c4] at H
          exact absurd H (by simp)
      · rw [if_neg c3] at H
        have c3b0 : decide (x9_1 < (l0.length : Int)) = false := decide_eq_false c3
        clear c3
        obtain rfl := Option.some.inj H
        go_wp2
        go_ret
        exact ⟨by first | rfl | (simp; done) | (simp [*]; done), by repeat (first | exact Drawn0.refl _ | apply Drawn0.step)⟩

/-! ### spec_caAnswers: function 45 -/
def spec_caAnswers.l0 : Nat → Int → ByteArray → List (List Int) → Int → Int → Option (ByteArray)
  | 0, _, _, _, _, _ => none
  | k + 1, x1, x5, x9, x10, x11 => if x11 < x10 then (if 0 ≤ x11 then (if x11 < (x9.length : Int) then ((spec_l1Has.f k (rd_L1 x9 x11) x1).bind fun t142 => (if t142 = true then (if x5.size + 1 ≤ 9223372036854775807 then (spec_caAnswers.l0 k x1 (x5 ++ (⟨#[121]⟩ : ByteArray)) x9 x10 (wrap64 (x11 + 1))) else (none)) else (if x5.size + 1 ≤ 9223372036854775807 then (spec_caAnswers.l0 k x1 (x5 ++ (⟨#[110]⟩ : ByteArray)) x9 x10 (wrap64 (x11 + 1))) else (none)))) else (none)) else (none)) else (some x5)
def spec_caAnswers.f (k : Nat) (a0_0 : Int) (l0_1 : List (List Int)) (a1 : Int) : Option (ByteArray) := spec_caAnswers.l0 k a1 (⟨#[]⟩ : ByteArray) l0_1 (l0_1.length : Int) 0
theorem spec_caAnswers.mono_l : ∀ k, (∀ y0 y1 y2 y3 y4, LeO (spec_caAnswers.l0 k y0 y1 y2 y3 y4) (spec_caAnswers.l0 (k + 1) y0 y1 y2 y3 y4))
  | 0 => fun _ _ _ _ _ r h => by simp [spec_caAnswers.l0] at h
  | k + 1 => by
    have ih0 := spec_caAnswers.mono_l k
    · intro y0 y1 y2 y3 y4
      unfold spec_caAnswers.l0
      repeat' first
      | (with_reducible exact ih0 _ _ _ _ _)
      | (with_reducible exact spec_l1Has.mono _ _ _)
      | (with_reducible exact LeO.refl _)
      | (with_reducible exact LeO.none _)
      | (with_reducible refine LeO.ite ?_ ?_)
      | (with_reducible refine LeO.bind ?_ (fun _ => ?_))
      | exact ih0 _ _ _ _ _
      | exact spec_l1Has.mono _ _ _
      | exact LeO.none _
      | refine LeO.ite ?_ ?_
      | refine LeO.bind ?_ (fun _ => ?_)
theorem spec_caAnswers.mono : ∀ a0 a1 a2 k, LeO (spec_caAnswers.f k a0 a1 a2) (spec_caAnswers.f (k + 1) a0 a1 a2) := by
  intro a0 a1 a2 k
  have ih0 := spec_caAnswers.mono_l k
  unfold spec_caAnswers.f
  repeat' first
      | (with_reducible exact ih0 _ _ _ _ _)
      | (with_reducible exact spec_l1Has.mono _ _ _)
      | (with_reducible exact LeO.refl _)
      | (with_reducible exact LeO.none _)
      | (with_reducible refine LeO.ite ?_ ?_)
      | (with_reducible refine LeO.bind ?_ (fun _ => ?_))
      | exact ih0 _ _ _ _ _
      | exact spec_l1Has.mono _ _ _
      | exact LeO.none _
      | refine LeO.ite ?_ ?_
      | refine LeO.bind ?_ (fun _ => ?_)
set_option maxHeartbeats 8000000 in
set_option maxRecDepth 100000 in
theorem spec_caAnswers.calls (k : Nat) (a0_0 : Int) (A0_1 : Option Addr) (c0_1 : Nat) (l0_1 : List (List Int)) (a1 : Int) (r : ByteArray) (w : World) (hr0_1 : Kd.C (Kd.slice 3 (Kd.int .i64)) w A0_1 l0_1.length l0_1) (hc0_1 : l0_1.length ≤ c0_1) (h : spec_caAnswers.f k a0_0 l0_1 a1 = some r) :
    Calls Try.prog 45 #[.agg #[.int .i64 a0_0, .slice A0_1 l0_1.length c0_1], .int .i64 a1] w fun e w' => e = .returned (.string r) ∧ Below w.heap.size w w' := by
  have hu27 := Try.underlying27
  have HR0_1 := Aside0.mk hr0_1
  have HC0_1 := Aside0.mk hc0_1
  clear hr0_1 hc0_1
  have HB := Aside0.mk (Below.refl w.heap.size w)
  have H : (spec_caAnswers.l0 k a1 (⟨#[]⟩ : ByteArray) l0_1 (l0_1.length : Int) 0) = some r := h
  clear h
  have H' := Aside0.mk H
  clear H
  go_enter Try.func45, Try.ntmps45
  go_wp2_with (first | ((with_reducible refine gate_dst (N := 2) rfl ?_); refine box_event ?hg (N := 2) ?hd (cs := #[.int .i64 a0_0, .slice A0_1 l0_1.length c0_1]) (t := 27) ?hr ?_; (case hd => rfl); (case hg => rfl); (case hr => first | (go_simp; done) | (go_simp; rfl)); intro gb140 hg w3 hbox hb; have n0_ := Aside0.mk (below_step (by repeat (first | (with_reducible first | exact HB.out | apply below_alloc | apply pw_below_drewN | apply below_drew1) | exact HB.out)) hb); have n1_ := Aside0.mk (hbox); have n2_ := Aside0.mk ((by rw [hg]; exact (below_size (by repeat (first | (with_reducible first | exact HB.out | apply below_alloc | apply pw_below_drewN | apply below_drew1) | exact HB.out))) : w.heap.size ≤ gb140)); have n3_ := Aside0.mk ((by rw [hg]; exact (below_size (by repeat (first | (with_reducible first | exact HB.out | apply below_alloc | apply pw_below_drewN | apply below_drew1) | exact HB.out))) : w.heap.size ≤ gb140)); clear HB; have HB := n0_; have BK140 := n1_; have GW140 := n2_; have GE140 := n3_; clear n0_ n1_ n2_ n3_; clear hb hbox hg; have hcz4_0 : w3.cell? ⟨gb140, 0, none⟩ = some (.int .i64 a0_0) := (blk_cell BK140.out 0).trans rfl; have hcz4_1 : w3.cell? ⟨gb140, 1, none⟩ = some (.slice A0_1 l0_1.length c0_1) := (blk_cell BK140.out 1).trans rfl; have hfz4_0 := blk_frozen BK140.out 0; have hfz4_1 := blk_frozen BK140.out 1))
  go_loopg [5, 11] k (fun kq v5 v11 w' => ∃ (x5_1 : ByteArray) (x11_1 : Int), v5 = .string x5_1 ∧ v11 = .int .i64 x11_1 ∧ Aside0 (spec_caAnswers.l0 kq a1 x5_1 l0_1 (l0_1.length : Int) x11_1 = some r) ∧ Aside0 (kq ≤ k) ∧ Aside0 (w'.heap[gb140]? = some (.cells #[.int .i64 a0_0, (.slice A0_1 l0_1.length c0_1)] 27 (0, 0))) ∧ Aside0 (Below w.heap.size w w'))
  case atStart => exact ⟨((⟨#[]⟩ : ByteArray)), (0), (by first | rfl | (simp; done) | (simp [*]; done)), (by first | rfl | (simp; done) | (simp [*]; done)), H', ⟨Nat.le_refl _⟩, ⟨by (with_reducible repeat (first | refine blk_drewN ?_ _ | refine blk_drew ?_ | refine blk_alloc ?_ _)); exact BK140.out⟩, ⟨by repeat (first | (with_reducible first | exact HB.out | apply below_alloc | apply pw_below_drewN | apply below_drew1 | refine below_set ?_ GE140.out) | exact HB.out)⟩⟩
  case round =>
    clear H'
    try clear p2
    try clear c4
    try clear hcz4_0
    try clear hcz4_1
    try clear hfz4_0
    try clear hfz4_1
    obtain ⟨x5_1, x11_1, rfl, rfl, HA, HK1, BK140, HB⟩ := hrel
    cases gk with
    | zero => exact absurd HA.out (by simp [spec_caAnswers.l0])
    | succ k1 =>
      have H := HA.out
      clear HA
      simp only [spec_caAnswers.l0] at H
      by_cases c5 : x11_1 < (l0_1.length : Int)
      · rw [if_pos c5] at H
        have c5b0 : decide (x11_1 < (l0_1.length : Int)) = true := decide_eq_true c5
        clear c5
        by_cases c6 : 0 ≤ x11_1
        · rw [if_pos c6] at H
          have c6b0 : decide (0 ≤ x11_1) = true := decide_eq_true c6
          clear c6
          by_cases c7 : x11_1 < (l0_1.length : Int)
          · rw [if_pos c7] at H
            have c7b0 : decide (x11_1 < (l0_1.length : Int)) = true := decide_eq_true c7
            clear c7
            replace H := Option.bind_eq_some_iff.mp H
            obtain ⟨t142, A80, H⟩ := H
            replace H : (if t142 = true then (if x5_1.size + 1 ≤ 9223372036854775807 then (spec_caAnswers.l0 k1 a1 (x5_1 ++ (⟨#[121]⟩ : ByteArray)) l0_1 (l0_1.length : Int) (wrap64 (x11_1 + 1))) else (none)) else (if x5_1.size + 1 ≤ 9223372036854775807 then (spec_caAnswers.l0 k1 a1 (x5_1 ++ (⟨#[110]⟩ : ByteArray)) l0_1 (l0_1.length : Int) (wrap64 (x11_1 + 1))) else (none))) = some r := H
            have A8 := Aside0.mk A80
            clear A80
            by_cases c9 : t142 = true
            · subst c9
              have H1 : (if x5_1.size + 1 ≤ 9223372036854775807 then (spec_caAnswers.l0 k1 a1 (x5_1 ++ (⟨#[121]⟩ : ByteArray)) l0_1 (l0_1.length : Int) (wrap64 (x11_1 + 1))) else (none)) = some r := by rw [if_pos rfl] at H; exact H
              clear H
              have H := H1
              clear H1
              by_cases c10 : x5_1.size + 1 ≤ 9223372036854775807
              · rw [if_pos c10] at H
                have c10b0 := eq_true c10
                have c10b1 : decide (x5_1.size + 1 ≤ 9223372036854775807) = true := decide_eq_true c10
                try have c10b2 : (9223372036854775807 < x5_1.size + 1) = False := eq_false (Nat.not_lt.2 c10)
                have H' := Aside0.mk H
                clear H
                have p141 : 0 ≤ (x11_1 : Int) := of_decide_eq_true (by first | (with_reducible assumption) | assumption)
                have q141 : x11_1 < (l0_1.length : Int) := of_decide_eq_true (by first | (with_reducible assumption) | assumption)
                obtain ⟨ad141, A141_0, c141_0, e141, hx141_0, hl141_0, hi141_0⟩ := at_L1 HR0_1.out x11_1 p141 q141
                cases e141
                (try replace hx141_0 := (HB.out.cell (World.block_lt_of_cell? w _ hx141_0)).trans hx141_0)
                have HR141_0 := Aside0.mk hi141_0
                have HC141_0 := Aside0.mk hl141_0
                clear hi141_0 hl141_0
                replace p141 := eq_true p141
                replace q141 := eq_true q141
                go_wp2_with (first | ((with_reducible refine gate_callee (f := 47) rfl ?_); refine goesL_ (some 17) rfl rfl Try.func47 (by kernel_rfl) rfl #[.slice A141_0 (rd_L1 l0_1 x11_1).length c141_0, .int .i64 a1] rfl (by (try simp only [List.map_toArray, List.map_cons, List.map_nil]); first | done | rfl | (simp only [List.length_drop, List.length_take]; rfl)) ?_; (with_reducible refine (spec_l1Has.calls k1 _ _ (rd_L1 l0_1 x11_1) a1 true _ ?side1 ?side2 A8.out).mono ?_); (case side1 => repeat (first | exact (Kd.C_below HR141_0.out HB.out) | (with_reducible refine Kd.C_alloc ?_ _) | (with_reducible refine Kd.C_drewN ?_ _) | (with_reducible refine Kd.C_drew ?_))); (case side2 => exact HC141_0.out); rintro e w' ⟨rfl, ⟨nd, rfl⟩⟩; refine ⟨_, rfl, ?_⟩))
                go_roundg k1
                case measure => have := HK1.out; omega
                case rel => exact ⟨(x5_1 ++ (⟨#[121]⟩ : ByteArray)), (wrap64 (x11_1 + 1)), (by first | rfl | (simp; done) | (simp [*]; done)), (by first | rfl | (simp; done) | (simp [*]; done)), H', ⟨by have := HK1.out; omega⟩, ⟨by (with_reducible repeat (first | refine blk_drewN ?_ _ | refine blk_drew ?_ | refine blk_alloc ?_ _)); exact BK140.out⟩, ⟨by repeat (first | (with_reducible first | exact HB.out | apply below_alloc | apply pw_below_drewN | apply below_drew1 | refine below_set ?_ GE140.out) | exact HB.out)⟩⟩
              · rw [if_neg c10] at H
                exact absurd H (by simp)
            · replace c9 := Bool.eq_false_iff.mpr c9
              subst c9
              have H1 : (if x5_1.size + 1 ≤ 9223372036854775807 then (spec_caAnswers.l0 k1 a1 (x5_1 ++ (⟨#[110]⟩ : ByteArray)) l0_1 (l0_1.length : Int) (wrap64 (x11_1 + 1))) else (none)) = some r := by rw [if_neg (show ¬ (false = true) by decide)] at H; exact H
              clear H
              have H := H1
              clear H1
              by_cases c11 : x5_1.size + 1 ≤ 9223372036854775807
              · rw [if_pos c11] at H
                have c11b0 := eq_true c11
                have c11b1 : decide (x5_1.size + 1 ≤ 9223372036854775807) = true := decide_eq_true c11
                try have c11b2 : (9223372036854775807 < x5_1.size + 1) = False := eq_false (Nat.not_lt.2 c11)
                have H' := Aside0.mk H
                clear H
                have p141 : 0 ≤ (x11_1 : Int) := of_decide_eq_true (by first | (with_reducible assumption) | assumption)
                have q141 : x11_1 < (l0_1.length : Int) := of_decide_eq_true (by first | (with_reducible assumption) | assumption)
                obtain ⟨ad141, A141_0, c141_0, e141, hx141_0, hl141_0, hi141_0⟩ := at_L1 HR0_1.out x11_1 p141 q141
                cases e141
                (try replace hx141_0 := (HB.out.cell (World.block_lt_of_cell? w _ hx141_0)).trans hx141_0)
                have HR141_0 := Aside0.mk hi141_0
                have HC141_0 := Aside0.mk hl141_0
                clear hi141_0 hl141_0
                replace p141 := eq_true p141
                replace q141 := eq_true q141
                go_wp2_with (first | ((with_reducible refine gate_callee (f := 47) rfl ?_); refine goesL_ (some 17) rfl rfl Try.func47 (by kernel_rfl) rfl #[.slice A141_0 (rd_L1 l0_1 x11_1).length c141_0, .int .i64 a1] rfl (by (try simp only [List.map_toArray, List.map_cons, List.map_nil]); first | done | rfl | (simp only [List.length_drop, List.length_take]; rfl)) ?_; (with_reducible refine (spec_l1Has.calls k1 _ _ (rd_L1 l0_1 x11_1) a1 false _ ?side1 ?side2 A8.out).mono ?_); (case side1 => repeat (first | exact (Kd.C_below HR141_0.out HB.out) | (with_reducible refine Kd.C_alloc ?_ _) | (with_reducible refine Kd.C_drewN ?_ _) | (with_reducible refine Kd.C_drew ?_))); (case side2 => exact HC141_0.out); rintro e w' ⟨rfl, ⟨nd, rfl⟩⟩; refine ⟨_, rfl, ?_⟩))
                go_roundg k1
                case measure => have := HK1.out; omega
                case rel => exact ⟨(x5_1 ++ (⟨#[110]⟩ : ByteArray)), (wrap64 (x11_1 + 1)), (by first | rfl | (simp; done) | (simp [*]; done)), (by first | rfl | (simp; done) | (simp [*]; done)), H', ⟨by have := HK1.out; omega⟩, ⟨by (with_reducible repeat (first | refine blk_drewN ?_ _ | refine blk_drew ?_ | refine blk_alloc ?_ _)); exact BK140.out⟩, ⟨by repeat (first | (with_reducible first | exact HB.out | apply below_alloc | apply pw_below_drewN | apply below_drew1 | refine below_set ?_ GE140.out) | exact HB.out)⟩⟩
              · rw [if_neg c11] at H
                exact absurd H (by simp)
          · rw [if_neg c7] at H
            exact absurd H (by simp)
        · rw [if_neg c6] at H
          exact absurd H (by simp)
      · rw [if_neg c5] at H
        have c5b0 : decide (x11_1 < (l0_1.length : Int)) = false := decide_eq_false c5
        clear c5
        obtain rfl := Option.some.inj H
        go_wp2
        go_ret
        exact ⟨by first | rfl | (simp [errW_none, errW_some] <;> rfl) | (simp [*, errW_none, errW_some] <;> rfl), by repeat (first | (with_reducible first | exact HB.out | apply below_alloc | apply pw_below_drewN | apply below_drew1 | refine below_set ?_ GE140.out) | exact HB.out)⟩

/-! ### spec_caApart: function 66 -/
/-- At how many places the answers differ, and the last of these. -/
def spec_caApart.apartL : List UInt8 → List UInt8 → Int → Int → Int → Int × Int
  | [], _, _, n, last => (n, last)
  | _ :: _, [], _, n, last => (n, last)
  | x :: s, y :: t, i, n, last => if x = y then spec_caApart.apartL s t (i + 1) n last else spec_caApart.apartL s t (i + 1) (n + 1) i
def spec_caApart.f (a0 a1 : ByteArray) : Option (Int × Int) := if a0.size ≤ a1.size ∧ a0.size ≤ 1000000 ∧ (a0.data.toList.all fun b => decide (b.toNat < 128)) = true then some (spec_caApart.apartL a0.data.toList a1.data.toList 0 0 (-1)) else none
theorem spec_caApart.apartL_step_ (s t : List UInt8) (i : Nat) (hs : i < s.length) (ht : i < t.length) (n last : Int) : spec_caApart.apartL (s.drop i) (t.drop i) i n last = if s[i] = t[i] then spec_caApart.apartL (s.drop (i + 1)) (t.drop (i + 1)) ((i + 1 : Nat) : Int) n last else spec_caApart.apartL (s.drop (i + 1)) (t.drop (i + 1)) ((i + 1 : Nat) : Int) (n + 1) i := by
  rw [List.drop_eq_getElem_cons hs, List.drop_eq_getElem_cons ht]
  rfl
set_option maxHeartbeats 8000000 in
set_option maxRecDepth 100000 in
theorem spec_caApart.calls (a0 a1 : ByteArray) (r1 r2 : Int) (w : World) (h : spec_caApart.f a0 a1 = some (r1, r2)) :
    Calls Try.prog 66 #[.string a0, .string a1] w fun e w' => e = .returned (.tuple #[.int .i64 r1, .int .i64 r2]) ∧ Below w.heap.size w w' := by
  have hb : a0.size ≤ a1.size ∧ a0.size ≤ 1000000 ∧ (a0.data.toList.all fun b => decide (b.toNat < 128)) = true := by
    apply Classical.byContradiction; intro hn; simp only [spec_caApart.f, if_neg hn] at h; cases h
  unfold spec_caApart.f at h
  rw [if_pos hb] at h
  have he := Aside0.mk (Option.some.inj h)
  clear h
  obtain ⟨h1, h2, h3⟩ := hb
  have h4 := Aside0.mk h3
  clear h3
  go_enter Try.func66, Try.ntmps66
  go_wp2
  go_loopw [6, 7, 8] (fun v6 v7 _ wr => ∃ (pos : Nat) (n last : Int), pos ≤ a0.size ∧ 0 ≤ n ∧ n ≤ pos ∧ v6 = .int .i64 n ∧ v7 = .int .i64 last ∧ wr.heap[w.heap.size]? = some (.stringIter a0 pos) ∧ Below w.heap.size w wr ∧ Aside0 (spec_caApart.apartL (a0.data.toList.drop pos) (a1.data.toList.drop pos) pos n last = (r1, r2))) (fun _ _ _ wr => a0.size - wr.iterPos w.heap.size)
  case atStart => exact ⟨0, 0, -1, Nat.zero_le _, by omega, by omega, rfl, rfl, World.iter_heap w a0 0, (Below.refl _ w).alloc (Nat.le_refl _) _, he⟩
  case round =>
    obtain ⟨pos, n, last, hp, hn0, hn1, rfl, rfl, hk, hb, HA⟩ := hrel
    have hmu : wr.iterPos w.heap.size = pos := by simp [World.iterPos, hk]
    by_cases hlt : pos < a0.size
    · have hlt1 : pos < a1.size := by omega
      obtain ⟨x, hx⟩ : ∃ x : UInt8, a0[pos]'hlt = x := ⟨_, rfl⟩
      obtain ⟨y, hy⟩ : ∃ y : UInt8, a1[pos]'hlt1 = y := ⟨_, rfl⟩
      have hx' : (a0.data.toList[pos]'(by simpa using hlt)) = x := by rw [← hx]; simp; rfl
      have hy' : (a1.data.toList[pos]'(by simpa using hlt1)) = y := by rw [← hy]; simp; rfl
      have h128 : (a0[pos]'hlt).toNat < 128 := by
        have := List.all_eq_true.1 h4.out (a0.data.toList[pos]'(by simpa using hlt)) (List.getElem_mem _)
        rw [decide_eq_true_eq, hx', ← hx] at this
        exact this
      have hs := spec_caApart.apartL_step_ a0.data.toList a1.data.toList pos (by simpa using hlt) (by simpa using hlt1) n last
      rw [HA.out, hx', hy'] at hs
      have HS := Aside0.mk hs
      clear hs hx' hy'
      have hix : ∀ W : World, (Instr.index 9 (.string a0) (.int .i64 pos)).run Try.prog W = .ok (.int .u8 x.toNat) W := fun W => by rw [← hx]; go_simp
      have hiy : ∀ W : World, (Instr.index 9 (.string a1) (.int .i64 pos)).run Try.prog W = .ok (.int .u8 y.toNat) W := fun W => by rw [← hy]; go_simp
      have hnext : ∀ ty, (Instr.next (.pointer (some ⟨w.heap.size, 0, none⟩)) true ty).run Try.prog wr = _ := fun ty => Lib.run_next_ascii_at wr w.heap.size a0 pos ty hk hlt h128
      have hk1 := Lib.iterAt_heap wr w.heap.size a0 pos (pos + 1) hk
      have hb1 : Below w.heap.size w (wr.iterAt w.heap.size a0 (pos + 1)) := Lib.below_iterAt hb (Nat.le_refl _) a0 (pos + 1)
      generalize wr.iterAt w.heap.size a0 (pos + 1) = W1 at hnext hk1 hb1
      have hmu1 : ∀ q, (W1.drewN q).iterPos w.heap.size = pos + 1 := fun q => by simp [World.iterPos, hk1]
      have hw : wrap64 (n + 1) = n + 1 := by unfold wrap64; omega
      by_cases e : x = y
      · subst e
        rw [if_pos rfl] at HS
        go_wp2
        repeat (go_quiet (fail); try go_wp2)
        go_roundw
        case rel => exact ⟨pos + 1, n, last, by omega, by omega, by omega, rfl, rfl, by first | exact hk1 | simpa using hk1, by first | exact hb1 | exact pw_below_drewN hb1 _, ⟨HS.out.symm⟩⟩
        case measure => (try rw [hmu1]); rw [hmu]; omega
      · rw [if_neg e] at HS
        have e2 : ((x.toNat : Int) != (y.toNat : Int)) = true := bne_iff_ne.2 fun h => e (UInt8.toNat_inj.1 (by omega))
        go_wp2
        repeat (go_quiet (fail); try go_wp2)
        go_roundw
        case rel => exact ⟨pos + 1, n + 1, pos, by omega, by omega, by omega, by first | rfl | rw [hw], rfl, by first | exact hk1 | simpa using hk1, by first | exact hb1 | exact pw_below_drewN hb1 _, ⟨HS.out.symm⟩⟩
        case measure => (try rw [hmu1]); rw [hmu]; omega
    · have hnext : ∀ ty, (Instr.next (.pointer (some ⟨w.heap.size, 0, none⟩)) true ty).run Try.prog wr = _ := fun ty => Lib.run_next_end_at wr w.heap.size a0 pos ty hk hlt
      have : pos = a0.size := by omega
      subst this
      have h5 := HA.out
      rw [List.drop_of_length_le (by simp)] at h5
      have h6 : n = r1 ∧ last = r2 := by simpa [spec_caApart.apartL] using h5
      obtain ⟨rfl, rfl⟩ := h6
      clear h5
      go_wp2
      repeat (go_quiet (fail); try go_wp2)
      go_ret2
      exact ⟨rfl, by first | exact hb | exact pw_below_drewN hb _⟩

/-! ### spec_l1Least: function 67 -/
def spec_l1Least.f (a0 : Int) (a1 : Int) : Option (Int) := if a0 < a1 then (some a0) else (some a1)
set_option maxHeartbeats 8000000 in
set_option maxRecDepth 100000 in
theorem spec_l1Least.calls (a0 : Int) (a1 : Int) (r : Int) (w : World) (h : spec_l1Least.f a0 a1 = some r) :
    Calls Try.prog 67 #[.int .i64 a0, .int .i64 a1] w fun e w' => e = .returned (.int .i64 r) ∧ Drawn0 w w' := by
  have H : (if a0 < a1 then (some a0) else (some a1)) = some r := h
  clear h
  by_cases c3 : a0 < a1
  · rw [if_pos c3] at H
    have c3b0 : decide (a0 < a1) = true := decide_eq_true c3
    clear c3
    obtain rfl := Option.some.inj H
    go_enter Try.func67, Try.ntmps67
    go_wp2
    go_ret
    exact ⟨by first | rfl | (simp; done) | (simp [*]; done), by repeat (first | exact Drawn0.refl _ | apply Drawn0.step)⟩
  · rw [if_neg c3] at H
    have c3b0 : decide (a0 < a1) = false := decide_eq_false c3
    clear c3
    obtain rfl := Option.some.inj H
    go_enter Try.func67, Try.ntmps67
    go_wp2
    go_ret
    exact ⟨by first | rfl | (simp; done) | (simp [*]; done), by repeat (first | exact Drawn0.refl _ | apply Drawn0.step)⟩

/-! ### spec_caLeast: function 50 -/
theorem spec_caLeast.infoS : (Try.prog.info? 9).map (fun i => (i.zero, i.size, i.bytes)) = some (some (.string ⟨#[]⟩), 1, 16) := by kernel_rfl
def spec_caLeast.inner (t : ByteArray) : List ByteArray → Int → Option Int
  | [], least => some least
  | o :: os, least => (spec_caApart.f t o).bind fun r => (spec_l1Least.f least r.1).bind fun m => spec_caLeast.inner t os m
def spec_caLeast.outer (k : Nat) (n : Int) (l : List (List Int)) : Nat → Int → List ByteArray → Int → Option Int
  | 0, _, _, least => some least
  | j + 1, x, before, least => (spec_caAnswers.f k n l x).bind fun t => (spec_caLeast.inner t before least).bind fun m => spec_caLeast.outer k n l j (x + 1) (before ++ [t]) m
def spec_caLeast.f (k : Nat) (a0_0 : Int) (l0_1 : List (List Int)) : Option (Int) := if 0 ≤ a0_0 ∧ a0_0 ≤ 1000000 then spec_caLeast.outer k a0_0 l0_1 a0_0.toNat 0 [] 13 else none
theorem spec_caLeast.outer_mono (k : Nat) (n : Int) (l : List (List Int)) : ∀ (j : Nat) (x : Int) (before : List ByteArray) (least : Int), LeO (spec_caLeast.outer k n l j x before least) (spec_caLeast.outer (k + 1) n l j x before least)
  | 0, _, _, _ => LeO.refl _
  | j + 1, x, before, least => LeO.bind (spec_caAnswers.mono _ _ _ _) (fun t => LeO.bind (LeO.refl _) (fun m => spec_caLeast.outer_mono k n l j _ _ _))
theorem spec_caLeast.mono : ∀ a0 a1 k, LeO (spec_caLeast.f k a0 a1) (spec_caLeast.f (k + 1) a0 a1) := by
  intro a0 a1 k
  unfold spec_caLeast.f
  exact LeO.ite (spec_caLeast.outer_mono _ _ _ _ _ _ _) (LeO.refl _)
set_option maxHeartbeats 8000000 in
set_option maxRecDepth 100000 in
theorem spec_caLeast.calls (k : Nat) (a0_0 : Int) (A0_1 : Option Addr) (c0_1 : Nat) (l0_1 : List (List Int)) (r1 : Int) (w : World) (hr0_1 : Kd.C (Kd.slice 3 (Kd.int .i64)) w A0_1 l0_1.length l0_1) (hc0_1 : l0_1.length ≤ c0_1) (h : spec_caLeast.f k a0_0 l0_1 = some r1) :
    Calls Try.prog 50 #[.agg #[.int .i64 a0_0, .slice A0_1 l0_1.length c0_1]] w fun e w' => e = .returned (.int .i64 r1) ∧ Below w.heap.size w w' := by
  have hu27 := Try.underlying27
  have HR0_1 := Aside0.mk hr0_1
  have HC0_1 := Aside0.mk hc0_1
  clear hr0_1 hc0_1
  have HB := Aside0.mk (Below.refl w.heap.size w)
  have hn : 0 ≤ a0_0 ∧ a0_0 ≤ 1000000 := by
    apply Classical.byContradiction; intro hn; simp only [spec_caLeast.f, if_neg hn] at h; cases h
  unfold spec_caLeast.f at h
  rw [if_pos hn] at h
  have HN := Aside0.mk hn
  have H0 := Aside0.mk h
  clear h hn
  go_enter Try.func50, Try.ntmps50
  go_wp2_with ((with_reducible refine gate_dst (N := 1) rfl ?_); (try (refine gate_guard (by rfl) ?_; dsimp only)); refine box_event ?hg (N := 1) ?hd (cs := #[.int .i64 a0_0, .slice A0_1 l0_1.length c0_1]) (t := 27) ?hr ?_; (case hd => rfl); (case hg => rfl); (case hr => first | (go_simp; done) | (go_simp; rfl)); intro gb hg w4 hbox hb; have n0_ := Aside0.mk (below_step (by repeat (first | (with_reducible first | exact HB.out | apply below_alloc | apply pw_below_drewN | apply below_drew1) | exact HB.out)) hb); have n1_ := Aside0.mk (hbox); have n2_ := Aside0.mk ((by rw [hg]; exact (below_size (by repeat (first | (with_reducible first | exact HB.out | apply below_alloc | apply pw_below_drewN | apply below_drew1) | exact HB.out))) : w.heap.size ≤ gb)); clear HB; have HB := n0_; have BK := n1_; have GE := n2_; clear n0_ n1_ n2_; clear hb hbox hg; have hcz_0 : w4.cell? ⟨gb, 0, none⟩ = some (.int .i64 a0_0) := (blk_cell BK.out 0).trans rfl; have hcz_1 : w4.cell? ⟨gb, 1, none⟩ = some (.slice A0_1 l0_1.length c0_1) := (blk_cell BK.out 1).trans rfl; have hfz_0 := blk_frozen BK.out 0; have hfz_1 := blk_frozen BK.out 1)
  go_loopg [3, 4, 5] a0_0.toNat (fun gg v3 v4 v5 w' => ∃ (x : Nat) (least : Int) (before : List ByteArray), v3 = .int .i64 least ∧ v5 = .int .i64 x ∧ x ≤ a0_0.toNat ∧ a0_0.toNat - x ≤ gg ∧ Aside0 (before.length = x) ∧ Aside0 (spec_caLeast.outer k a0_0 l0_1 (a0_0.toNat - x) x before least = some r1) ∧ Aside0 (Kd.R Kd.string 9 w' w.heap.size (fun _ => True) v4 before) ∧ Aside0 (w'.heap[gb]? = some (.cells #[.int .i64 a0_0, .slice A0_1 l0_1.length c0_1] 27 (0, 0))) ∧ Aside0 (Below w.heap.size w w'))
  case atStart => exact ⟨0, 13, [], rfl, rfl, Nat.zero_le _, by omega, ⟨rfl⟩, H0, ⟨by exact Kd.R_nil _ _ _ _ _⟩, ⟨by (with_reducible repeat (first | refine blk_drewN ?_ _ | refine blk_drew ?_ | refine blk_alloc ?_ _)); exact BK.out⟩, ⟨by repeat (first | (with_reducible first | exact HB.out | apply below_alloc | apply pw_below_drewN | apply below_drew1 | refine below_set ?_ GE.out) | exact HB.out)⟩⟩
  case round =>
    clear H0 BK HB
    (try clear hcz_0 hcz_1 hfz_0 hfz_1)
    obtain ⟨x, least, before, rfl, rfl, hx, hgg, hlen, HA, HO, BK, HB⟩ := hrel
    have hcz_0 : wr.cell? ⟨gb, 0, none⟩ = some (.int .i64 a0_0) := (blk_cell BK.out 0).trans rfl
    have hcz_1 : wr.cell? ⟨gb, 1, none⟩ = some (.slice A0_1 l0_1.length c0_1) := (blk_cell BK.out 1).trans rfl
    have hfz_0 := blk_frozen BK.out 0
    have hfz_1 := blk_frozen BK.out 1
    by_cases hlt : (x : Int) < a0_0
    · have h1 := HA.out
      clear HA
      have hw := Aside0.mk (show wrap64 ((x : Int) + 1) = ((x + 1 : Nat) : Int) by have := HN.out; unfold wrap64; omega)
      rw [show a0_0.toNat - x = (a0_0.toNat - (x + 1)) + 1 by omega, spec_caLeast.outer] at h1
      obtain ⟨t, ht, h2⟩ := Option.bind_eq_some_iff.1 h1
      obtain ⟨m, hm, h3⟩ := Option.bind_eq_some_iff.1 h2
      have HT := Aside0.mk ht
      have HM := Aside0.mk hm
      have H3 := Aside0.mk h3
      clear h1 h2 h3 ht hm
      obtain ⟨A4, c4, rfl⟩ := Kd.R_slice HO.out
      have HLEN := Aside0.mk (show before.length < 2000000 by have := HN.out; have := hlen.out; omega)
      go_wp2_with (go_at_call 45; (with_reducible refine (spec_caAnswers.calls k a0_0 _ _ l0_1 (x : Int) t _ ?side1 ?side2 HT.out).mono ?_); (case side1 => repeat (first | exact (Kd.C_below HR0_1.out HB.out) | (with_reducible refine Kd.C_alloc ?_ _) | (with_reducible refine Kd.C_drewN ?_ _) | (with_reducible refine Kd.C_drew ?_))); (case side2 => exact HC0_1.out); rintro e w5 ⟨rfl, hb⟩; have n0_ := Aside0.mk (Kd.R_below (by (with_reducible repeat (first | apply Kd.R_alloc | apply Kd.R_drewN | apply Kd.R_drew)); exact HO.out) hb); have n1_ := Aside0.mk (blk_below (g := gb) (o := .cells #[.int .i64 a0_0, .slice A0_1 l0_1.length c0_1] 27 (0, 0)) (by (with_reducible repeat (first | refine blk_drewN ?_ _ | refine blk_drew ?_ | refine blk_alloc ?_ _)); exact BK.out) hb); have n2_ := Aside0.mk (below_step (by repeat (first | (with_reducible first | exact HB.out | apply below_alloc | apply pw_below_drewN | apply below_drew1 | refine below_set ?_ GE.out) | exact HB.out)) hb); clear HO; have HO := n0_; clear n0_; clear BK HB; have BK := n1_; have HB := n2_; clear n1_ n2_; clear hb)
      (try clear hcz_0 hcz_1 hfz_0 hfz_1)
      go_loopg [3, 22] before.length (fun gg v3 v22 w' => ∃ (i : Nat) (ls : Int), v3 = .int .i64 ls ∧ v22 = .int .i64 i ∧ i ≤ before.length ∧ before.length - i ≤ gg ∧ Aside0 (spec_caLeast.inner t (before.drop i) ls = some m) ∧ Aside0 (Kd.R Kd.string 9 w' w.heap.size (fun _ => True) (.slice A4 before.length c4) before) ∧ Aside0 (w'.heap[gb]? = some (.cells #[.int .i64 a0_0, .slice A0_1 l0_1.length c0_1] 27 (0, 0))) ∧ Aside0 (Below w.heap.size w w'))
      case atStart => exact ⟨0, least, rfl, rfl, Nat.zero_le _, by omega, HM, ⟨by (with_reducible repeat (first | apply Kd.R_alloc | apply Kd.R_drewN | apply Kd.R_drew)); exact HO.out⟩, ⟨by (with_reducible repeat (first | refine blk_drewN ?_ _ | refine blk_drew ?_ | refine blk_alloc ?_ _)); exact BK.out⟩, ⟨by repeat (first | (with_reducible first | exact HB.out | apply below_alloc | apply pw_below_drewN | apply below_drew1 | refine below_set ?_ GE.out) | exact HB.out)⟩⟩
      case round =>
        clear HM BK HB HO
        obtain ⟨i, ls, rfl, rfl, hi, hgi, HA, HO, BK, HB⟩ := hrel
        by_cases hil : i < before.length
        · have hilz : (i : Int) < (before.length : Int) := by omega
          have h1 := HA.out
          clear HA
          rw [List.drop_eq_getElem_cons hil, spec_caLeast.inner] at h1
          have hwi := Aside0.mk (show wrap64 ((i : Int) + 1) = ((i + 1 : Nat) : Int) by have := HLEN.out; unfold wrap64; omega)
          obtain ⟨ad, ead, hcell⟩ := Kd.at_string (Kd.R_reads' HO.out).2.2 (i : Int) (by omega) hilz
          cases ead
          rw [Int.toNat_natCast] at hcell
          obtain ⟨y, hy⟩ : ∃ y, before[i] = y := ⟨_, rfl⟩
          rw [show rdOf ByteArray.empty before (i : Int) = y by rw [← hy]; simp [rdOf, hil, List.getD]] at hcell
          rw [hy] at h1
          clear hy
          obtain ⟨⟨d, d2⟩, hd, h2⟩ := Option.bind_eq_some_iff.1 h1
          obtain ⟨m', hm', h3⟩ := Option.bind_eq_some_iff.1 h2
          have HD := Aside0.mk hd
          have HM' := Aside0.mk hm'
          have HA := Aside0.mk h3
          clear h1 h2 h3 hd hm'
          go_wp2_with (first | (go_at_call 66; (with_reducible refine (spec_caApart.calls t y d d2 _ HD.out).mono ?_); rintro e w6 ⟨rfl, hb⟩; have n0_ := Aside0.mk (Kd.R_below (by (with_reducible repeat (first | apply Kd.R_alloc | apply Kd.R_drewN | apply Kd.R_drew)); exact HO.out) hb); have n1_ := Aside0.mk (blk_below (g := gb) (o := .cells #[.int .i64 a0_0, .slice A0_1 l0_1.length c0_1] 27 (0, 0)) (by (with_reducible repeat (first | refine blk_drewN ?_ _ | refine blk_drew ?_ | refine blk_alloc ?_ _)); exact BK.out) hb); have n2_ := Aside0.mk (below_step (by repeat (first | (with_reducible first | exact HB.out | apply below_alloc | apply pw_below_drewN | apply below_drew1 | refine below_set ?_ GE.out) | exact HB.out)) hb); clear HO; have HO := n0_; clear n0_; clear BK HB; have BK := n1_; have HB := n2_; clear n1_ n2_; clear hb) | (go_at_call 67; (with_reducible refine (spec_l1Least.calls ls d m' _ HM'.out).mono ?_); rintro e w7 ⟨rfl, q_, rfl⟩))
          go_roundg (before.length - (i + 1))
          case measure => omega
          case rel => exact ⟨i + 1, m', rfl, by first | rfl | rw [hwi.out] | go_num, by omega, by omega, HA, ⟨by (with_reducible repeat (first | apply Kd.R_alloc | apply Kd.R_drewN | apply Kd.R_drew)); exact HO.out⟩, ⟨by (with_reducible repeat (first | refine blk_drewN ?_ _ | refine blk_drew ?_ | refine blk_alloc ?_ _)); exact BK.out⟩, ⟨by repeat (first | (with_reducible first | exact HB.out | apply below_alloc | apply pw_below_drewN | apply below_drew1 | refine below_set ?_ GE.out) | exact HB.out)⟩⟩
        · have : i = before.length := by omega
          subst this
          have hmm : ls = m := by
            have h1 := HA.out
            rw [List.drop_of_length_le (Nat.le_refl _), spec_caLeast.inner] at h1
            exact Option.some.inj h1
          subst hmm
          clear HA
          obtain ⟨y9, hy9⟩ : ∃ y_ : List ByteArray, y_ = before ++ [t] := ⟨_, rfl⟩
          have NY := Aside0.mk hy9
          have HL9 := Aside0.mk (show y9.length = x + 1 by rw [hy9]; simp; exact hlen.out)
          have H3' := Aside0.mk (show spec_caLeast.outer k a0_0 l0_1 (a0_0.toNat - (x + 1)) ((x + 1 : Nat) : Int) y9 ls = some r1 by rw [hy9]; exact H3.out)
          clear hy9 H3
          go_wp2_with ((with_reducible refine gate_builtin (b := .append) (xs := #[.tmp 36, .tmp 38]) rfl ?_); at_builtin; refine Kd.R_append Kd.string (w0 := w) w.heap.size rfl (.tmp 36) (.tmp 38) 58 9 (.string ⟨#[]⟩) 16 rfl Try.underlying58 spec_caLeast.infoS rfl (by decide) (by omega) (.slice A4 before.length c4) before t [.string t] (fun _ => True) (fun _ => False) rfl rfl ?aP (fun _ hk => hk.elim) ?aF ?aO ?aB ?aS ?aL ?_; (case aP => exact rfl); (case aB => exact (by repeat (first | (with_reducible first | exact HB.out | apply below_alloc | apply pw_below_drewN | apply below_drew1 | refine below_set ?_ GE.out) | exact HB.out))); (case aF => exact (fun _ _ => trivial)); (case aO => exact (by (with_reducible repeat (first | apply Kd.R_alloc | apply Kd.R_drewN | apply Kd.R_drew)); exact HO.out)); (case aS => exact (below_size (by repeat (first | (with_reducible first | exact HB.out | apply below_alloc | apply pw_below_drewN | apply below_drew1 | refine below_set ?_ GE.out) | exact HB.out)))); (case aL => have := HLEN.out; omega); intro v237 w13 ho hb hg1 hat; rw [← NY.out] at ho; have n0_ := Aside0.mk (blk_grown (g := gb) (o := .cells #[.int .i64 a0_0, .slice A0_1 l0_1.length c0_1] 27 (0, 0)) (by (with_reducible repeat (first | refine blk_drewN ?_ _ | refine blk_drew ?_ | refine blk_alloc ?_ _)); exact BK.out) hg1 (Kd.R_ne HO.out BK.out (by decide))); have n1_ := Aside0.mk (hb); have n2_ := Aside0.mk (ho); clear BK HB HO; have BK := n0_; have HB := n1_; have HO := n2_; clear n0_ n1_ n2_; clear ho hb hg1 hat)
          go_roundg (a0_0.toNat - (x + 1))
          case measure => omega
          case rel => exact ⟨x + 1, ls, y9, rfl, by first | rfl | rw [hw.out] | go_num, by omega, by omega, HL9, H3', ⟨by (with_reducible repeat (first | apply Kd.R_alloc | apply Kd.R_drewN | apply Kd.R_drew)); exact HO.out⟩, ⟨by (with_reducible repeat (first | refine blk_drewN ?_ _ | refine blk_drew ?_ | refine blk_alloc ?_ _)); exact BK.out⟩, ⟨by repeat (first | (with_reducible first | exact HB.out | apply below_alloc | apply pw_below_drewN | apply below_drew1 | refine below_set ?_ GE.out) | exact HB.out)⟩⟩
    · have hxe : x = a0_0.toNat := by have := HN.out; omega
      have h1 := HA.out
      rw [show a0_0.toNat - x = 0 by omega, spec_caLeast.outer] at h1
      obtain rfl := Option.some.inj h1
      clear h1 HA
      go_wp2
      go_ret
      exact ⟨rfl, by repeat (first | (with_reducible first | exact HB.out | apply below_alloc | apply pw_below_drewN | apply below_drew1 | refine below_set ?_ GE.out) | exact HB.out)⟩

end Go.Proofs.Ytpekdmadmggbpaa.Te
