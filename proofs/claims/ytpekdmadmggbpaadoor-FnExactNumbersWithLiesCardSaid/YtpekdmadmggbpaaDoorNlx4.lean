/- Functions of the program and of the reference as Lean functions, and the contracts of their calls: laid by a program of this repo (wip/gen.py), in part by hand. -/
import Derived.Test.YtpekdmadmggbpaaDoorNlx0
import Derived.Test.YtpekdmadmggbpaaDoorNlx3
namespace Go.Proofs.YtpekdmadmggbpaaDoor.Nl
open Go.RowKit Go.Proofs.YtpekdmadmggbpaaDoorW.PrintWords Go.Proofs.YtpekdmadmggbpaaDoorW.PrintLast Go.Proofs.YtpekdmadmggbpaaDoorW.PrintMore
attribute [local go_sem] max2_int min2_int max_two min_two max_three min_three max_four min_four   -- for this text's walks alone
set_option linter.unusedVariables false
set_option linter.unusedSimpArgs false

/-! ### spec_caAsked: function 26 -/
def spec_caAsked.isYn (b : UInt8) : Bool := decide (b.toNat = 121) || decide (b.toNat = 110)
def spec_caAsked.f (k : Nat) (a0_0 : Int) (l0_1 : List (List Int)) (a1 : ByteArray) : Option (Bool) := (spec_caGood.f k a0_0 l0_1).bind fun t => if t = true then (if (a1.size : Int) = (l0_1.length : Int) then some (a1.data.toList.all spec_caAsked.isYn) else some false) else some false
theorem spec_caAsked.mono : ∀ a0 a1 a2 k, LeO (spec_caAsked.f k a0 a1 a2) (spec_caAsked.f (k + 1) a0 a1 a2) := by
  intro a0 a1 a2 k
  unfold spec_caAsked.f
  exact LeO.bind (spec_caGood.mono _ _ _) (fun _ => LeO.refl _)
theorem spec_caAsked.all_take (s : ByteArray) (pos : Nat) (h : pos < s.size) : (s.data.toList.take (pos + 1)).all spec_caAsked.isYn = ((s.data.toList.take pos).all spec_caAsked.isYn && spec_caAsked.isYn (s[pos]'h)) := by
  rw [List.take_succ_eq_append_getElem (by simpa using h), List.all_append]
  simp
  rfl
theorem spec_caAsked.all_not (s : ByteArray) (pos : Nat) (h : pos < s.size) (hn : spec_caAsked.isYn (s[pos]'h) = false) : s.data.toList.all spec_caAsked.isYn = false := by
  rw [← Bool.not_eq_true, List.all_eq_true]
  intro ha
  have := ha (s[pos]'h) (by rw [show s[pos]'h = s.data.toList[pos]'(by simpa using h) by simp; rfl]; exact List.getElem_mem _)
  rw [hn] at this
  cases this
set_option maxHeartbeats 8000000 in
set_option maxRecDepth 100000 in
theorem spec_caAsked.calls (k : Nat) (a0_0 : Int) (A0_1 : Option Addr) (c0_1 : Nat) (l0_1 : List (List Int)) (a1 : ByteArray) (r : Bool) (w : World) (hr0_1 : Kd.C (Kd.slice 3 (Kd.int .i64)) w A0_1 l0_1.length l0_1) (hc0_1 : l0_1.length ≤ c0_1) (h : spec_caAsked.f k a0_0 l0_1 a1 = some r) :
    Calls Tryd.prog 26 #[.agg #[.int .i64 a0_0, .slice A0_1 l0_1.length c0_1], .string a1] w fun e w' => e = .returned (.bool r) ∧ Below w.heap.size w w' := by
  obtain ⟨t, h1, h2⟩ := Option.bind_eq_some_iff.1 h
  clear h
  have hw : ∀ W : World, w.heap.size + 1 ≤ W.heap.size → Below w.heap.size w W → W.cell? ⟨w.heap.size, 1, none⟩ = some (.slice A0_1 l0_1.length c0_1) →
      Calls Tryd.prog 31 #[.agg #[.int .i64 a0_0, .slice A0_1 l0_1.length c0_1]] W fun e w' => e = .returned (.bool t) ∧ w'.cell? ⟨w.heap.size, 1, none⟩ = some (.slice A0_1 l0_1.length c0_1) ∧ Below w.heap.size w w' :=
    fun W hz hb h1' => (spec_caGood.calls k a0_0 A0_1 c0_1 l0_1 t W (Kd.C_below hr0_1 hb) hc0_1 h1).mono fun e w' h => ⟨h.1, (h.2.cell (p := ⟨w.heap.size, 1, none⟩) (by show w.heap.size < W.heap.size; omega)).trans h1', below_step hb h.2⟩
  have HW := Aside0.mk hw
  clear hw h1
  cases t with
  | false =>
    obtain rfl := Option.some.inj ((if_neg (by simp)).symm.trans h2)
    go_enter Tryd.func26, Tryd.ntmps26
    go_wp2_with (go_at_call 31; refine (HW.out _ (by simp) (by first | exact (Below.refl _ w).alloc (Nat.le_refl _) _ | exact pw_below_drewN ((Below.refl _ w).alloc (Nat.le_refl _) _) _) (by simp)).mono ?_; rintro e W1 ⟨rfl, h1, HB⟩)
    go_ret
    exact ⟨rfl, HB⟩
  | true =>
    rw [if_pos rfl] at h2
    by_cases h12 : (a1.size : Int) = (l0_1.length : Int)
    · rw [if_pos h12] at h2
      have c5b0 : ((a1.size : Int) != (l0_1.length : Int)) = false := bne_eq_false_iff_eq.mpr h12
      clear h12
      obtain rfl := Option.some.inj h2
      clear h2
      go_enter Tryd.func26, Tryd.ntmps26
      go_wp2_with (go_at_call 31; refine (HW.out _ (by simp) (by first | exact (Below.refl _ w).alloc (Nat.le_refl _) _ | exact pw_below_drewN ((Below.refl _ w).alloc (Nat.le_refl _) _) _) (by simp)).mono ?_; rintro e W1 ⟨rfl, h1, hb⟩; replace HB := Aside0.mk hb; clear hb)
      go_loopw [5] (fun _ wr => ∃ pos : Nat, pos ≤ a1.size ∧ wr = W1.iter a1 pos ∧ Aside0 ((a1.data.toList.take pos).all spec_caAsked.isYn = true)) (fun _ wr => a1.size - wr.iterPos W1.heap.size)
      case atStart => exact ⟨0, Nat.zero_le _, rfl, ⟨rfl⟩⟩
      case round =>
        obtain ⟨pos, hp, rfl, HA⟩ := hrel
        by_cases hlt : pos < a1.size
        · obtain ⟨y, hy⟩ : ∃ y : Bool, spec_caAsked.isYn (a1[pos]'hlt) = y := ⟨_, rfl⟩
          obtain ⟨n, hn⟩ : ∃ n : Nat, (a1[pos]'hlt).toNat = n := ⟨_, rfl⟩
          have hix : ∀ W : World, (Instr.index 9 (.string a1) (.int .i64 pos)).run Tryd.prog W = .ok (.int .u8 n) W := fun W => by rw [← hn]; go_simp
          cases y with
          | true =>
            have h3 : n = 121 ∨ n = 110 := by
              unfold spec_caAsked.isYn at hy
              rw [Bool.or_eq_true, decide_eq_true_eq, decide_eq_true_eq, hn] at hy
              exact hy
            have HA' := Aside0.mk (show (a1.data.toList.take (pos + 1)).all spec_caAsked.isYn = true by rw [spec_caAsked.all_take a1 pos hlt, HA.out, hy]; rfl)
            have hnext : ∀ ty, (Instr.next (.pointer (some ⟨W1.heap.size, 0, none⟩)) true ty).run Tryd.prog (W1.iter a1 pos) = _ := fun ty => run_next_ascii W1 a1 pos ty hlt (by rw [hn]; omega)
            rcases h3 with rfl | rfl
            · go_wp2
              go_roundw
              case rel => exact ⟨pos + 1, by omega, rfl, HA'⟩
              case measure => simp; omega
            · go_wp2
              go_roundw
              case rel => exact ⟨pos + 1, by omega, rfl, HA'⟩
              case measure => simp; omega
          | false =>
            have h3 : n ≠ 121 ∧ n ≠ 110 := by
              unfold spec_caAsked.isYn at hy
              rw [Bool.or_eq_false_iff, decide_eq_false_iff_not, decide_eq_false_iff_not, hn] at hy
              exact hy
            have n1 : ((n : Int) != 121) = true := bne_iff_ne.2 (by omega)
            have n2 : ((n : Int) != 110) = true := bne_iff_ne.2 (by omega)
            have HN := Aside0.mk (spec_caAsked.all_not a1 pos hlt hy)
            clear hy
            have hnext : ∀ ty, (Instr.next (.pointer (some ⟨W1.heap.size, 0, none⟩)) true ty).run Tryd.prog (W1.iter a1 pos) = _ := fun ty => run_next_any W1 a1 pos ty hlt
            go_wp2
            go_ret
            exact ⟨by rw [HN.out]; rfl, HB.out.alloc (by have := HB.out.size; omega) _⟩
        · have hnext : ∀ ty, (Instr.next (.pointer (some ⟨W1.heap.size, 0, none⟩)) true ty).run Tryd.prog (W1.iter a1 pos) = _ := fun ty => run_next_end W1 a1 pos ty hlt
          go_wp2
          go_ret
          have : pos = a1.size := by omega
          subst this
          rw [List.take_of_length_le (by simp)] at HA
          exact ⟨by rw [HA.out]; rfl, HB.out.alloc (by have := HB.out.size; omega) _⟩
    · rw [if_neg h12] at h2
      obtain rfl := Option.some.inj h2
      have c5b0 : ((a1.size : Int) != (l0_1.length : Int)) = true := bne_iff_ne.mpr h12
      go_enter Tryd.func26, Tryd.ntmps26
      go_wp2_with (go_at_call 31; refine (HW.out _ (by simp) (by first | exact (Below.refl _ w).alloc (Nat.le_refl _) _ | exact pw_below_drewN ((Below.refl _ w).alloc (Nat.le_refl _) _) _) (by simp)).mono ?_; rintro e W1 ⟨rfl, h1, HB⟩)
      go_ret
      exact ⟨rfl, HB⟩

/-! ### spec_l1Has: function 47 -/
def spec_l1Has.l0 : Nat → Int → List Int → Int → Int → Option (Bool)
  | 0, _, _, _, _ => none
  | k + 1, x1, x7, x8, x9 => if x9 < x8 then (if 0 ≤ x9 then (if x9 < (x7.length : Int) then (if (rd x7 x9) = x1 then (some true) else (spec_l1Has.l0 k x1 x7 x8 (wrap64 (x9 + 1)))) else (none)) else (none)) else (some false)
def spec_l1Has.f (k : Nat) (l0 : List Int) (a1 : Int) : Option (Bool) := spec_l1Has.l0 k a1 l0 (l0.length : Int) 0
theorem spec_l1Has.mono_l : ∀ k, (∀ y0 y1 y2 y3, LeO (spec_l1Has.l0 k y0 y1 y2 y3) (spec_l1Has.l0 (k + 1) y0 y1 y2 y3))
  | 0 => fun _ _ _ _ r h => by simp [spec_l1Has.l0] at h
  | k + 1 => by
    have ih0 := spec_l1Has.mono_l k
    · intro y0 y1 y2 y3
      unfold spec_l1Has.l0
      repeat' first
      | (with_reducible exact ih0 _ _ _ _)
      | (with_reducible exact LeO.refl _)
      | (with_reducible exact LeO.none _)
      | (with_reducible refine LeO.ite ?_ ?_)
      | (with_reducible refine LeO.bind ?_ (fun _ => ?_))
      | exact ih0 _ _ _ _
      | exact LeO.none _
      | refine LeO.ite ?_ ?_
      | refine LeO.bind ?_ (fun _ => ?_)
theorem spec_l1Has.mono : ∀ a0 a1 k, LeO (spec_l1Has.f k a0 a1) (spec_l1Has.f (k + 1) a0 a1) := by
  intro a0 a1 k
  have ih0 := spec_l1Has.mono_l k
  unfold spec_l1Has.f
  repeat' first
      | (with_reducible exact ih0 _ _ _ _)
      | (with_reducible exact LeO.refl _)
      | (with_reducible exact LeO.none _)
      | (with_reducible refine LeO.ite ?_ ?_)
      | (with_reducible refine LeO.bind ?_ (fun _ => ?_))
      | exact ih0 _ _ _ _
      | exact LeO.none _
      | refine LeO.ite ?_ ?_
      | refine LeO.bind ?_ (fun _ => ?_)
set_option maxHeartbeats 8000000 in
set_option maxRecDepth 100000 in
theorem spec_l1Has.calls (k : Nat) (A0 : Option Addr) (c0 : Nat) (l0 : List Int) (a1 : Int) (r : Bool) (w : World) (hr0 : Kd.C (Kd.int .i64) w A0 l0.length l0) (hc0 : l0.length ≤ c0) (h : spec_l1Has.f k l0 a1 = some r) :
    Calls Tryd.prog 47 #[.slice A0 l0.length c0, .int .i64 a1] w fun e w' => e = .returned (.bool r) ∧ Drawn0 w w' := by
  have HR0 := Aside0.mk hr0
  have HC0 := Aside0.mk hc0
  clear hr0 hc0
  have H : (spec_l1Has.l0 k a1 l0 (l0.length : Int) 0) = some r := h
  clear h
  have H' := Aside0.mk H
  clear H
  go_enter Tryd.func47, Tryd.ntmps47
  go_wp2
  go_loopg [9] k (fun kq v9 w' => ∃ (x9_1 : Int), v9 = .int .i64 x9_1 ∧ Aside0 (spec_l1Has.l0 kq a1 l0 (l0.length : Int) x9_1 = some r) ∧ Aside0 (kq ≤ k) ∧ Drawn0 w w')
  case atStart => exact ⟨(0), (by first | rfl | (simp; done) | (simp [*]; done)), H', ⟨Nat.le_refl _⟩, by repeat (first | exact Drawn0.refl _ | apply Drawn0.step)⟩
  case round =>
    clear H'
    try clear p2
    obtain ⟨x9_1, rfl, HA, HK1, ⟨m1, rfl⟩⟩ := hrel
    cases gk with
    | zero => exact absurd HA.out (by simp [spec_l1Has.l0])
    | succ k1 =>
      have H := HA.out
      clear HA
      simp only [spec_l1Has.l0] at H
      by_cases c3 : x9_1 < (l0.length : Int)
      · rw [if_pos c3] at H
        have c3b0 : decide (x9_1 < (l0.length : Int)) = true := decide_eq_true c3
        clear c3
        by_cases c4 : 0 ≤ x9_1
        · rw [if_pos c4] at H
          have c4b0 : decide (0 ≤ x9_1) = true := decide_eq_true c4
          clear c4
          by_cases c5 : x9_1 < (l0.length : Int)
          · rw [if_pos c5] at H
            have c5b0 : decide (x9_1 < (l0.length : Int)) = true := decide_eq_true c5
            clear c5
            by_cases c6 : (rd l0 x9_1) = a1
            · rw [if_pos c6] at H
              have c6b0 : ((rd l0 x9_1) == a1) = true := beq_iff_eq.mpr c6
              have c6b1 : ((rd l0 x9_1) != a1) = false := bne_eq_false_iff_eq.mpr c6
              clear c6
              obtain rfl := Option.some.inj H
              have p139 : 0 ≤ (x9_1 : Int) := of_decide_eq_true (by first | (with_reducible assumption) | assumption)
              have q139 : x9_1 < (l0.length : Int) := of_decide_eq_true (by first | (with_reducible assumption) | assumption)
              obtain ⟨ad139, e139, hx139_0⟩ := Kd.at_int HR0.out x9_1 p139 q139
              cases e139
              replace p139 := eq_true p139
              replace q139 := eq_true q139
              go_wp2
              go_ret
              exact ⟨by first | rfl | (simp; done) | (simp [*]; done), by repeat (first | exact Drawn0.refl _ | apply Drawn0.step)⟩
            · rw [if_neg c6] at H
              have c6b0 : ((rd l0 x9_1) == a1) = false := beq_eq_false_iff_ne.mpr c6
              have c6b1 : ((rd l0 x9_1) != a1) = true := bne_iff_ne.mpr c6
              have H' := Aside0.mk H
              clear H
              have p139 : 0 ≤ (x9_1 : Int) := of_decide_eq_true (by first | (with_reducible assumption) | assumption)
              have q139 : x9_1 < (l0.length : Int) := of_decide_eq_true (by first | (with_reducible assumption) | assumption)
              obtain ⟨ad139, e139, hx139_0⟩ := Kd.at_int HR0.out x9_1 p139 q139
              cases e139
              replace p139 := eq_true p139
              replace q139 := eq_true q139
              go_wp2
              go_roundg k1
              case measure => have := HK1.out; omega
              case rel => exact ⟨(wrap64 (x9_1 + 1)), (by first | rfl | (simp; done) | (simp [*]; done)), H', ⟨by have := HK1.out; omega⟩, by repeat (first | exact Drawn0.refl _ | apply Drawn0.step)⟩
          · rw [if_neg c5] at H
            exact absurd H (by simp)
        · rw [if_neg c4] at H
          exact absurd H (by simp)
      · rw [if_neg c3] at H
        have c3b0 : decide (x9_1 < (l0.length : Int)) = false := decide_eq_false c3
        clear c3
        obtain rfl := Option.some.inj H
        go_wp2
        go_ret
        exact ⟨by first | rfl | (simp; done) | (simp [*]; done), by repeat (first | exact Drawn0.refl _ | apply Drawn0.step)⟩

/-! ### spec_caAnswers: function 32 -/
def spec_caAnswers.l0 : Nat → Int → ByteArray → List (List Int) → Int → Int → Option (ByteArray)
  | 0, _, _, _, _, _ => none
  | k + 1, x1, x5, x9, x10, x11 => if x11 < x10 then (if 0 ≤ x11 then (if x11 < (x9.length : Int) then ((spec_l1Has.f k (rd_L1 x9 x11) x1).bind fun t142 => (if t142 = true then (if x5.size + 1 ≤ 9223372036854775807 then (spec_caAnswers.l0 k x1 (x5 ++ (⟨#[121]⟩ : ByteArray)) x9 x10 (wrap64 (x11 + 1))) else (none)) else (if x5.size + 1 ≤ 9223372036854775807 then (spec_caAnswers.l0 k x1 (x5 ++ (⟨#[110]⟩ : ByteArray)) x9 x10 (wrap64 (x11 + 1))) else (none)))) else (none)) else (none)) else (some x5)
def spec_caAnswers.f (k : Nat) (a0_0 : Int) (l0_1 : List (List Int)) (a1 : Int) : Option (ByteArray) := spec_caAnswers.l0 k a1 (⟨#[]⟩ : ByteArray) l0_1 (l0_1.length : Int) 0
theorem spec_caAnswers.mono_l : ∀ k, (∀ y0 y1 y2 y3 y4, LeO (spec_caAnswers.l0 k y0 y1 y2 y3 y4) (spec_caAnswers.l0 (k + 1) y0 y1 y2 y3 y4))
  | 0 => fun _ _ _ _ _ r h => by simp [spec_caAnswers.l0] at h
  | k + 1 => by
    have ih0 := spec_caAnswers.mono_l k
    · intro y0 y1 y2 y3 y4
      unfold spec_caAnswers.l0
      repeat' first
      | (with_reducible exact ih0 _ _ _ _ _)
      | (with_reducible exact spec_l1Has.mono _ _ _)
      | (with_reducible exact LeO.refl _)
      | (with_reducible exact LeO.none _)
      | (with_reducible refine LeO.ite ?_ ?_)
      | (with_reducible refine LeO.bind ?_ (fun _ => ?_))
      | exact ih0 _ _ _ _ _
      | exact spec_l1Has.mono _ _ _
      | exact LeO.none _
      | refine LeO.ite ?_ ?_
      | refine LeO.bind ?_ (fun _ => ?_)
theorem spec_caAnswers.mono : ∀ a0 a1 a2 k, LeO (spec_caAnswers.f k a0 a1 a2) (spec_caAnswers.f (k + 1) a0 a1 a2) := by
  intro a0 a1 a2 k
  have ih0 := spec_caAnswers.mono_l k
  unfold spec_caAnswers.f
  repeat' first
      | (with_reducible exact ih0 _ _ _ _ _)
      | (with_reducible exact spec_l1Has.mono _ _ _)
      | (with_reducible exact LeO.refl _)
      | (with_reducible exact LeO.none _)
      | (with_reducible refine LeO.ite ?_ ?_)
      | (with_reducible refine LeO.bind ?_ (fun _ => ?_))
      | exact ih0 _ _ _ _ _
      | exact spec_l1Has.mono _ _ _
      | exact LeO.none _
      | refine LeO.ite ?_ ?_
      | refine LeO.bind ?_ (fun _ => ?_)
set_option maxHeartbeats 8000000 in
set_option maxRecDepth 100000 in
theorem spec_caAnswers.calls (k : Nat) (a0_0 : Int) (A0_1 : Option Addr) (c0_1 : Nat) (l0_1 : List (List Int)) (a1 : Int) (r : ByteArray) (w : World) (hr0_1 : Kd.C (Kd.slice 3 (Kd.int .i64)) w A0_1 l0_1.length l0_1) (hc0_1 : l0_1.length ≤ c0_1) (h : spec_caAnswers.f k a0_0 l0_1 a1 = some r) :
    Calls Tryd.prog 32 #[.agg #[.int .i64 a0_0, .slice A0_1 l0_1.length c0_1], .int .i64 a1] w fun e w' => e = .returned (.string r) ∧ Below w.heap.size w w' := by
  have hu28 := Tryd.underlying28
  have HR0_1 := Aside0.mk hr0_1
  have HC0_1 := Aside0.mk hc0_1
  clear hr0_1 hc0_1
  have HB := Aside0.mk (Below.refl w.heap.size w)
  have H : (spec_caAnswers.l0 k a1 (⟨#[]⟩ : ByteArray) l0_1 (l0_1.length : Int) 0) = some r := h
  clear h
  have H' := Aside0.mk H
  clear H
  go_enter Tryd.func32, Tryd.ntmps32
  go_wp2_with (first | ((with_reducible refine gate_dst (N := 2) rfl ?_); refine box_event ?hg (N := 2) ?hd (cs := #[.int .i64 a0_0, .slice A0_1 l0_1.length c0_1]) (t := 28) ?hr ?_; (case hd => rfl); (case hg => rfl); (case hr => first | (go_simp; done) | (go_simp; rfl)); intro gb140 hg w3 hbox hb; have n0_ := Aside0.mk (below_step (by repeat (first | (with_reducible first | exact HB.out | apply below_alloc | apply pw_below_drewN | apply below_drew1) | exact HB.out)) hb); have n1_ := Aside0.mk (hbox); have n2_ := Aside0.mk ((by rw [hg]; exact (below_size (by repeat (first | (with_reducible first | exact HB.out | apply below_alloc | apply pw_below_drewN | apply below_drew1) | exact HB.out))) : w.heap.size ≤ gb140)); have n3_ := Aside0.mk ((by rw [hg]; exact (below_size (by repeat (first | (with_reducible first | exact HB.out | apply below_alloc | apply pw_below_drewN | apply below_drew1) | exact HB.out))) : w.heap.size ≤ gb140)); clear HB; have HB := n0_; have BK140 := n1_; have GW140 := n2_; have GE140 := n3_; clear n0_ n1_ n2_ n3_; clear hb hbox hg; have hcz4_0 : w3.cell? ⟨gb140, 0, none⟩ = some (.int .i64 a0_0) := (blk_cell BK140.out 0).trans rfl; have hcz4_1 : w3.cell? ⟨gb140, 1, none⟩ = some (.slice A0_1 l0_1.length c0_1) := (blk_cell BK140.out 1).trans rfl; have hfz4_0 := blk_frozen BK140.out 0; have hfz4_1 := blk_frozen BK140.out 1))
  go_loopg [5, 11] k (fun kq v5 v11 w' => ∃ (x5_1 : ByteArray) (x11_1 : Int), v5 = .string x5_1 ∧ v11 = .int .i64 x11_1 ∧ Aside0 (spec_caAnswers.l0 kq a1 x5_1 l0_1 (l0_1.length : Int) x11_1 = some r) ∧ Aside0 (kq ≤ k) ∧ Aside0 (w'.heap[gb140]? = some (.cells #[.int .i64 a0_0, (.slice A0_1 l0_1.length c0_1)] 28 (0, 0))) ∧ Aside0 (Below w.heap.size w w'))
  case atStart => exact ⟨((⟨#[]⟩ : ByteArray)), (0), (by first | rfl | (simp; done) | (simp [*]; done)), (by first | rfl | (simp; done) | (simp [*]; done)), H', ⟨Nat.le_refl _⟩, ⟨by (with_reducible repeat (first | refine blk_drewN ?_ _ | refine blk_drew ?_ | refine blk_alloc ?_ _)); exact BK140.out⟩, ⟨by repeat (first | (with_reducible first | exact HB.out | apply below_alloc | apply pw_below_drewN | apply below_drew1 | refine below_set ?_ GE140.out) | exact HB.out)⟩⟩
  case round =>
    clear H'
    try clear p2
    try clear c3
    try clear hcz4_0
    try clear hcz4_1
    try clear hfz4_0
    try clear hfz4_1
    obtain ⟨x5_1, x11_1, rfl, rfl, HA, HK1, BK140, HB⟩ := hrel
    cases gk with
    | zero => exact absurd HA.out (by simp [spec_caAnswers.l0])
    | succ k1 =>
      have H := HA.out
      clear HA
      simp only [spec_caAnswers.l0] at H
      by_cases c5 : x11_1 < (l0_1.length : Int)
      · rw [if_pos c5] at H
        have c5b0 : decide (x11_1 < (l0_1.length : Int)) = true := decide_eq_true c5
        clear c5
        by_cases c6 : 0 ≤ x11_1
        · rw [if_pos c6] at H
          have c6b0 : decide (0 ≤ x11_1) = true := decide_eq_true c6
          clear c6
          by_cases c7 : x11_1 < (l0_1.length : Int)
          · rw [if_pos c7] at H
            have c7b0 : decide (x11_1 < (l0_1.length : Int)) = true := decide_eq_true c7
            clear c7
            replace H := Option.bind_eq_some_iff.mp H
            obtain ⟨t142, A80, H⟩ := H
            replace H : (if t142 = true then (if x5_1.size + 1 ≤ 9223372036854775807 then (spec_caAnswers.l0 k1 a1 (x5_1 ++ (⟨#[121]⟩ : ByteArray)) l0_1 (l0_1.length : Int) (wrap64 (x11_1 + 1))) else (none)) else (if x5_1.size + 1 ≤ 9223372036854775807 then (spec_caAnswers.l0 k1 a1 (x5_1 ++ (⟨#[110]⟩ : ByteArray)) l0_1 (l0_1.length : Int) (wrap64 (x11_1 + 1))) else (none))) = some r := H
            have A8 := Aside0.mk A80
            clear A80
            by_cases c9 : t142 = true
            · subst c9
              have H1 : (if x5_1.size + 1 ≤ 9223372036854775807 then (spec_caAnswers.l0 k1 a1 (x5_1 ++ (⟨#[121]⟩ : ByteArray)) l0_1 (l0_1.length : Int) (wrap64 (x11_1 + 1))) else (none)) = some r := by rw [if_pos rfl] at H; exact H
              clear H
              have H := H1
              clear H1
              by_cases c10 : x5_1.size + 1 ≤ 9223372036854775807
              · rw [if_pos c10] at H
                have c10b0 := eq_true c10
                have c10b1 : decide (x5_1.size + 1 ≤ 9223372036854775807) = true := decide_eq_true c10
                try have c10b2 : (9223372036854775807 < x5_1.size + 1) = False := eq_false (Nat.not_lt.2 c10)
                have H' := Aside0.mk H
                clear H
                have p141 : 0 ≤ (x11_1 : Int) := of_decide_eq_true (by first | (with_reducible assumption) | assumption)
                have q141 : x11_1 < (l0_1.length : Int) := of_decide_eq_true (by first | (with_reducible assumption) | assumption)
                obtain ⟨ad141, A141_0, c141_0, e141, hx141_0, hl141_0, hi141_0⟩ := at_L1 HR0_1.out x11_1 p141 q141
                cases e141
                (try replace hx141_0 := (HB.out.cell (World.block_lt_of_cell? w _ hx141_0)).trans hx141_0)
                have HR141_0 := Aside0.mk hi141_0
                have HC141_0 := Aside0.mk hl141_0
                clear hi141_0 hl141_0
                replace p141 := eq_true p141
                replace q141 := eq_true q141
                go_wp2_with (first | ((with_reducible refine gate_callee (f := 47) rfl ?_); refine goesL_ (some 17) rfl rfl Tryd.func47 (by kernel_rfl) rfl #[.slice A141_0 (rd_L1 l0_1 x11_1).length c141_0, .int .i64 a1] rfl (by (try simp only [List.map_toArray, List.map_cons, List.map_nil]); first | done | rfl | (simp only [List.length_drop, List.length_take]; rfl)) ?_; (with_reducible refine (spec_l1Has.calls k1 _ _ (rd_L1 l0_1 x11_1) a1 true _ ?side1 ?side2 A8.out).mono ?_); (case side1 => repeat (first | exact (Kd.C_below HR141_0.out HB.out) | (with_reducible refine Kd.C_alloc ?_ _) | (with_reducible refine Kd.C_drewN ?_ _) | (with_reducible refine Kd.C_drew ?_))); (case side2 => exact HC141_0.out); rintro e w' ⟨rfl, ⟨nd, rfl⟩⟩; refine ⟨_, rfl, ?_⟩))
                go_roundg k1
                case measure => have := HK1.out; omega
                case rel => exact ⟨(x5_1 ++ (⟨#[121]⟩ : ByteArray)), (wrap64 (x11_1 + 1)), (by first | rfl | (simp; done) | (simp [*]; done)), (by first | rfl | (simp; done) | (simp [*]; done)), H', ⟨by have := HK1.out; omega⟩, ⟨by (with_reducible repeat (first | refine blk_drewN ?_ _ | refine blk_drew ?_ | refine blk_alloc ?_ _)); exact BK140.out⟩, ⟨by repeat (first | (with_reducible first | exact HB.out | apply below_alloc | apply pw_below_drewN | apply below_drew1 | refine below_set ?_ GE140.out) | exact HB.out)⟩⟩
              · rw [if_neg c10] at H
                exact absurd H (by simp)
            · replace c9 := Bool.eq_false_iff.mpr c9
              subst c9
              have H1 : (if x5_1.size + 1 ≤ 9223372036854775807 then (spec_caAnswers.l0 k1 a1 (x5_1 ++ (⟨#[110]⟩ : ByteArray)) l0_1 (l0_1.length : Int) (wrap64 (x11_1 + 1))) else (none)) = some r := by rw [if_neg (show ¬ (false = true) by decide)] at H; exact H
              clear H
              have H := H1
              clear H1
              by_cases c11 : x5_1.size + 1 ≤ 9223372036854775807
              · rw [if_pos c11] at H
                have c11b0 := eq_true c11
                have c11b1 : decide (x5_1.size + 1 ≤ 9223372036854775807) = true := decide_eq_true c11
                try have c11b2 : (9223372036854775807 < x5_1.size + 1) = False := eq_false (Nat.not_lt.2 c11)
                have H' := Aside0.mk H
                clear H
                have p141 : 0 ≤ (x11_1 : Int) := of_decide_eq_true (by first | (with_reducible assumption) | assumption)
                have q141 : x11_1 < (l0_1.length : Int) := of_decide_eq_true (by first | (with_reducible assumption) | assumption)
                obtain ⟨ad141, A141_0, c141_0, e141, hx141_0, hl141_0, hi141_0⟩ := at_L1 HR0_1.out x11_1 p141 q141
                cases e141
                (try replace hx141_0 := (HB.out.cell (World.block_lt_of_cell? w _ hx141_0)).trans hx141_0)
                have HR141_0 := Aside0.mk hi141_0
                have HC141_0 := Aside0.mk hl141_0
                clear hi141_0 hl141_0
                replace p141 := eq_true p141
                replace q141 := eq_true q141
                go_wp2_with (first | ((with_reducible refine gate_callee (f := 47) rfl ?_); refine goesL_ (some 17) rfl rfl Tryd.func47 (by kernel_rfl) rfl #[.slice A141_0 (rd_L1 l0_1 x11_1).length c141_0, .int .i64 a1] rfl (by (try simp only [List.map_toArray, List.map_cons, List.map_nil]); first | done | rfl | (simp only [List.length_drop, List.length_take]; rfl)) ?_; (with_reducible refine (spec_l1Has.calls k1 _ _ (rd_L1 l0_1 x11_1) a1 false _ ?side1 ?side2 A8.out).mono ?_); (case side1 => repeat (first | exact (Kd.C_below HR141_0.out HB.out) | (with_reducible refine Kd.C_alloc ?_ _) | (with_reducible refine Kd.C_drewN ?_ _) | (with_reducible refine Kd.C_drew ?_))); (case side2 => exact HC141_0.out); rintro e w' ⟨rfl, ⟨nd, rfl⟩⟩; refine ⟨_, rfl, ?_⟩))
                go_roundg k1
                case measure => have := HK1.out; omega
                case rel => exact ⟨(x5_1 ++ (⟨#[110]⟩ : ByteArray)), (wrap64 (x11_1 + 1)), (by first | rfl | (simp; done) | (simp [*]; done)), (by first | rfl | (simp; done) | (simp [*]; done)), H', ⟨by have := HK1.out; omega⟩, ⟨by (with_reducible repeat (first | refine blk_drewN ?_ _ | refine blk_drew ?_ | refine blk_alloc ?_ _)); exact BK140.out⟩, ⟨by repeat (first | (with_reducible first | exact HB.out | apply below_alloc | apply pw_below_drewN | apply below_drew1 | refine below_set ?_ GE140.out) | exact HB.out)⟩⟩
              · rw [if_neg c11] at H
                exact absurd H (by simp)
          · rw [if_neg c7] at H
            exact absurd H (by simp)
        · rw [if_neg c6] at H
          exact absurd H (by simp)
      · rw [if_neg c5] at H
        have c5b0 : decide (x11_1 < (l0_1.length : Int)) = false := decide_eq_false c5
        clear c5
        obtain rfl := Option.some.inj H
        go_wp2
        go_ret
        exact ⟨by first | rfl | (simp [errW_none, errW_some] <;> rfl) | (simp [*, errW_none, errW_some] <;> rfl), by repeat (first | (with_reducible first | exact HB.out | apply below_alloc | apply pw_below_drewN | apply below_drew1 | refine below_set ?_ GE140.out) | exact HB.out)⟩

/-! ### spec_caApart: function 36 -/
/-- At how many places the answers differ, and the last of these. -/
def spec_caApart.apartL : List UInt8 → List UInt8 → Int → Int → Int → Int × Int
  | [], _, _, n, last => (n, last)
  | _ :: _, [], _, n, last => (n, last)
  | x :: s, y :: t, i, n, last => if x = y then spec_caApart.apartL s t (i + 1) n last else spec_caApart.apartL s t (i + 1) (n + 1) i
def spec_caApart.f (a0 a1 : ByteArray) : Option (Int × Int) := if a0.size ≤ a1.size ∧ a0.size ≤ 1000000 ∧ (a0.data.toList.all fun b => decide (b.toNat < 128)) = true then some (spec_caApart.apartL a0.data.toList a1.data.toList 0 0 (-1)) else none
theorem spec_caApart.apartL_step_ (s t : List UInt8) (i : Nat) (hs : i < s.length) (ht : i < t.length) (n last : Int) : spec_caApart.apartL (s.drop i) (t.drop i) i n last = if s[i] = t[i] then spec_caApart.apartL (s.drop (i + 1)) (t.drop (i + 1)) ((i + 1 : Nat) : Int) n last else spec_caApart.apartL (s.drop (i + 1)) (t.drop (i + 1)) ((i + 1 : Nat) : Int) (n + 1) i := by
  rw [List.drop_eq_getElem_cons hs, List.drop_eq_getElem_cons ht]
  rfl
set_option maxHeartbeats 8000000 in
set_option maxRecDepth 100000 in
theorem spec_caApart.calls (a0 a1 : ByteArray) (r1 r2 : Int) (w : World) (h : spec_caApart.f a0 a1 = some (r1, r2)) :
    Calls Tryd.prog 36 #[.string a0, .string a1] w fun e w' => e = .returned (.tuple #[.int .i64 r1, .int .i64 r2]) ∧ Below w.heap.size w w' := by
  have hb : a0.size ≤ a1.size ∧ a0.size ≤ 1000000 ∧ (a0.data.toList.all fun b => decide (b.toNat < 128)) = true := by
    apply Classical.byContradiction; intro hn; simp only [spec_caApart.f, if_neg hn] at h; cases h
  unfold spec_caApart.f at h
  rw [if_pos hb] at h
  have he := Aside0.mk (Option.some.inj h)
  clear h
  obtain ⟨h1, h2, h3⟩ := hb
  have h4 := Aside0.mk h3
  clear h3
  go_enter Tryd.func36, Tryd.ntmps36
  go_wp2
  go_loopw [6, 7, 8] (fun v6 v7 _ wr => ∃ (pos : Nat) (n last : Int), pos ≤ a0.size ∧ 0 ≤ n ∧ n ≤ pos ∧ v6 = .int .i64 n ∧ v7 = .int .i64 last ∧ wr.heap[w.heap.size]? = some (.stringIter a0 pos) ∧ Below w.heap.size w wr ∧ Aside0 (spec_caApart.apartL (a0.data.toList.drop pos) (a1.data.toList.drop pos) pos n last = (r1, r2))) (fun _ _ _ wr => a0.size - wr.iterPos w.heap.size)
  case atStart => exact ⟨0, 0, -1, Nat.zero_le _, by omega, by omega, rfl, rfl, World.iter_heap w a0 0, (Below.refl _ w).alloc (Nat.le_refl _) _, he⟩
  case round =>
    obtain ⟨pos, n, last, hp, hn0, hn1, rfl, rfl, hk, hb, HA⟩ := hrel
    have hmu : wr.iterPos w.heap.size = pos := by simp [World.iterPos, hk]
    by_cases hlt : pos < a0.size
    · have hlt1 : pos < a1.size := by omega
      obtain ⟨x, hx⟩ : ∃ x : UInt8, a0[pos]'hlt = x := ⟨_, rfl⟩
      obtain ⟨y, hy⟩ : ∃ y : UInt8, a1[pos]'hlt1 = y := ⟨_, rfl⟩
      have hx' : (a0.data.toList[pos]'(by simpa using hlt)) = x := by rw [← hx]; simp; rfl
      have hy' : (a1.data.toList[pos]'(by simpa using hlt1)) = y := by rw [← hy]; simp; rfl
      have h128 : (a0[pos]'hlt).toNat < 128 := by
        have := List.all_eq_true.1 h4.out (a0.data.toList[pos]'(by simpa using hlt)) (List.getElem_mem _)
        rw [decide_eq_true_eq, hx', ← hx] at this
        exact this
      have hs := spec_caApart.apartL_step_ a0.data.toList a1.data.toList pos (by simpa using hlt) (by simpa using hlt1) n last
      rw [HA.out, hx', hy'] at hs
      have HS := Aside0.mk hs
      clear hs hx' hy'
      have hix : ∀ W : World, (Instr.index 9 (.string a0) (.int .i64 pos)).run Tryd.prog W = .ok (.int .u8 x.toNat) W := fun W => by rw [← hx]; go_simp
      have hiy : ∀ W : World, (Instr.index 9 (.string a1) (.int .i64 pos)).run Tryd.prog W = .ok (.int .u8 y.toNat) W := fun W => by rw [← hy]; go_simp
      have hnext : ∀ ty, (Instr.next (.pointer (some ⟨w.heap.size, 0, none⟩)) true ty).run Tryd.prog wr = _ := fun ty => Lib.run_next_ascii_at wr w.heap.size a0 pos ty hk hlt h128
      have hk1 := Lib.iterAt_heap wr w.heap.size a0 pos (pos + 1) hk
      have hb1 : Below w.heap.size w (wr.iterAt w.heap.size a0 (pos + 1)) := Lib.below_iterAt hb (Nat.le_refl _) a0 (pos + 1)
      generalize wr.iterAt w.heap.size a0 (pos + 1) = W1 at hnext hk1 hb1
      have hmu1 : ∀ q, (W1.drewN q).iterPos w.heap.size = pos + 1 := fun q => by simp [World.iterPos, hk1]
      have hw : wrap64 (n + 1) = n + 1 := by unfold wrap64; omega
      by_cases e : x = y
      · subst e
        rw [if_pos rfl] at HS
        go_wp2
        repeat (go_quiet (fail); try go_wp2)
        go_roundw
        case rel => exact ⟨pos + 1, n, last, by omega, by omega, by omega, rfl, rfl, by first | exact hk1 | simpa using hk1, by first | exact hb1 | exact pw_below_drewN hb1 _, ⟨HS.out.symm⟩⟩
        case measure => (try rw [hmu1]); rw [hmu]; omega
      · rw [if_neg e] at HS
        have e2 : ((x.toNat : Int) != (y.toNat : Int)) = true := bne_iff_ne.2 fun h => e (UInt8.toNat_inj.1 (by omega))
        go_wp2
        repeat (go_quiet (fail); try go_wp2)
        go_roundw
        case rel => exact ⟨pos + 1, n + 1, pos, by omega, by omega, by omega, by first | rfl | rw [hw], rfl, by first | exact hk1 | simpa using hk1, by first | exact hb1 | exact pw_below_drewN hb1 _, ⟨HS.out.symm⟩⟩
        case measure => (try rw [hmu1]); rw [hmu]; omega
    · have hnext : ∀ ty, (Instr.next (.pointer (some ⟨w.heap.size, 0, none⟩)) true ty).run Tryd.prog wr = _ := fun ty => Lib.run_next_end_at wr w.heap.size a0 pos ty hk hlt
      have : pos = a0.size := by omega
      subst this
      have h5 := HA.out
      rw [List.drop_of_length_le (by simp)] at h5
      have h6 : n = r1 ∧ last = r2 := by simpa [spec_caApart.apartL] using h5
      obtain ⟨rfl, rfl⟩ := h6
      clear h5
      go_wp2
      repeat (go_quiet (fail); try go_wp2)
      go_ret2
      exact ⟨rfl, by first | exact hb | exact pw_below_drewN hb _⟩

end Go.Proofs.YtpekdmadmggbpaaDoor.Nl
