/- Functions of the program and of the reference as Lean functions, and the contracts of their calls: laid by a program of this repo (wip/gen.py), in part by hand. -/
import Derived.Test.YtpekdmadmggbpaaDoorNlx0
import Derived.Test.YtpekdmadmggbpaaDoorNlx5
import Derived.Test.YtpekdmadmggbpaaDoorNlx7
import Derived.Test.YtpekdmadmggbpaaDoorNlx8
namespace Go.Proofs.YtpekdmadmggbpaaDoor.Nl
open Go.RowKit Go.Proofs.YtpekdmadmggbpaaDoorW.PrintWords Go.Proofs.YtpekdmadmggbpaaDoorW.PrintLast Go.Proofs.YtpekdmadmggbpaaDoorW.PrintMore
attribute [local go_sem] max2_int min2_int max_two min_two max_three min_three max_four min_four   -- for this text's walks alone
set_option linter.unusedVariables false
set_option linter.unusedSimpArgs false

/-! ### impl_differ: function 41 -/
def impl_differ.l0 : Nat → ByteArray → ByteArray → Int → Int → Int → Option (Int)
  | 0, _, _, _, _, _ => none
  | k + 1, x0, x1, x5, x8, x9 => if x9 < x8 then (if 0 ≤ x9 then (if x9 < (x0.size : Int) then (if x9 < (x1.size : Int) then (if (bt x0 x9) = (bt x1 x9) then (impl_differ.l0 k x0 x1 x5 x8 (wrap64 (x9 + 1))) else (impl_differ.l0 k x0 x1 (wrap64 (x5 + 1)) x8 (wrap64 (x9 + 1)))) else (none)) else (none)) else (none)) else (some x5)
def impl_differ.f (k : Nat) (a0 : ByteArray) (a1 : ByteArray) : Option (Int) := impl_differ.l0 k a0 a1 0 (a0.size : Int) 0
theorem impl_differ.mono_l : ∀ k, (∀ y0 y1 y2 y3 y4, LeO (impl_differ.l0 k y0 y1 y2 y3 y4) (impl_differ.l0 (k + 1) y0 y1 y2 y3 y4))
  | 0 => fun _ _ _ _ _ r h => by simp [impl_differ.l0] at h
  | k + 1 => by
    have ih0 := impl_differ.mono_l k
    · intro y0 y1 y2 y3 y4
      unfold impl_differ.l0
      repeat' first
      | (with_reducible exact ih0 _ _ _ _ _)
      | (with_reducible exact LeO.refl _)
      | (with_reducible exact LeO.none _)
      | (with_reducible refine LeO.ite ?_ ?_)
      | (with_reducible refine LeO.bind ?_ (fun _ => ?_))
      | exact ih0 _ _ _ _ _
      | exact LeO.none _
      | refine LeO.ite ?_ ?_
      | refine LeO.bind ?_ (fun _ => ?_)
theorem impl_differ.mono : ∀ a0 a1 k, LeO (impl_differ.f k a0 a1) (impl_differ.f (k + 1) a0 a1) := by
  intro a0 a1 k
  have ih0 := impl_differ.mono_l k
  unfold impl_differ.f
  repeat' first
      | (with_reducible exact ih0 _ _ _ _ _)
      | (with_reducible exact LeO.refl _)
      | (with_reducible exact LeO.none _)
      | (with_reducible refine LeO.ite ?_ ?_)
      | (with_reducible refine LeO.bind ?_ (fun _ => ?_))
      | exact ih0 _ _ _ _ _
      | exact LeO.none _
      | refine LeO.ite ?_ ?_
      | refine LeO.bind ?_ (fun _ => ?_)
set_option maxHeartbeats 8000000 in
set_option maxRecDepth 100000 in
theorem impl_differ.calls (k : Nat) (a0 : ByteArray) (a1 : ByteArray) (r : Int) (w : World) (h : impl_differ.f k a0 a1 = some r) :
    Calls Tryd.prog 41 #[.string a0, .string a1] w fun e w' => e = .returned (.int .i64 r) ∧ Drawn0 w w' := by
  have H : (impl_differ.l0 k a0 a1 0 (a0.size : Int) 0) = some r := h
  clear h
  have H' := Aside0.mk H
  clear H
  go_enter Tryd.func41, Tryd.ntmps41
  go_wp2
  repeat (go_quiet (fail); try go_wp2)
  go_loopg [5, 9] k (fun kq v5 v9 w' => ∃ (x5_1 : Int) (x9_1 : Int), v5 = .int .i64 x5_1 ∧ v9 = .int .i64 x9_1 ∧ Aside0 (impl_differ.l0 kq a0 a1 x5_1 (a0.size : Int) x9_1 = some r) ∧ Aside0 (kq ≤ k) ∧ Drawn0 w w')
  case atStart => exact ⟨(0), (0), (by first | rfl | (simp; done) | (simp [*]; done)), (by first | rfl | (simp; done) | (simp [*]; done)), H', ⟨Nat.le_refl _⟩, by repeat (first | exact Drawn0.refl _ | apply Drawn0.step)⟩
  case round =>
    clear H'
    try clear p2
    obtain ⟨x5_1, x9_1, rfl, rfl, HA, HK1, ⟨m1, rfl⟩⟩ := hrel
    cases gk with
    | zero => exact absurd HA.out (by simp [impl_differ.l0])
    | succ k1 =>
      have H := HA.out
      clear HA
      simp only [impl_differ.l0] at H
      by_cases c3 : x9_1 < (a0.size : Int)
      · rw [if_pos c3] at H
        have c3b0 : decide (x9_1 < (a0.size : Int)) = true := decide_eq_true c3
        clear c3
        by_cases c4 : 0 ≤ x9_1
        · rw [if_pos c4] at H
          have c4b0 : decide (0 ≤ x9_1) = true := decide_eq_true c4
          clear c4
          by_cases c5 : x9_1 < (a0.size : Int)
          · rw [if_pos c5] at H
            have c5b0 : decide (x9_1 < (a0.size : Int)) = true := decide_eq_true c5
            clear c5
            by_cases c7 : x9_1 < (a1.size : Int)
            · rw [if_pos c7] at H
              have c7b0 : decide (x9_1 < (a1.size : Int)) = true := decide_eq_true c7
              clear c7
              by_cases c9 : (bt a0 x9_1) = (bt a1 x9_1)
              · rw [if_pos c9] at H
                have c9b0 : ((bt a0 x9_1) == (bt a1 x9_1)) = true := beq_iff_eq.mpr c9
                have c9b1 : ((bt a0 x9_1) != (bt a1 x9_1)) = false := bne_eq_false_iff_eq.mpr c9
                clear c9
                have H' := Aside0.mk H
                clear H
                have p6 : 0 ≤ (x9_1 : Int) := of_decide_eq_true (by first | (with_reducible assumption) | assumption)
                have q6 : x9_1 < (a0.size : Int) := of_decide_eq_true (by first | (with_reducible assumption) | assumption)
                have hx6 := bt_at a0 x9_1
                replace p6 := eq_true p6
                replace q6 := eq_true q6
                have p8 : 0 ≤ (x9_1 : Int) := of_decide_eq_true (by first | (with_reducible assumption) | assumption)
                have q8 : x9_1 < (a1.size : Int) := of_decide_eq_true (by first | (with_reducible assumption) | assumption)
                have hx8 := bt_at a1 x9_1
                replace p8 := eq_true p8
                replace q8 := eq_true q8
                go_wp2
                repeat (go_quiet (fail); try go_wp2)
                go_roundg k1
                case measure => have := HK1.out; omega
                case rel => exact ⟨(x5_1), (wrap64 (x9_1 + 1)), (by first | rfl | (simp; done) | (simp [*]; done)), (by first | rfl | (simp; done) | (simp [*]; done)), H', ⟨by have := HK1.out; omega⟩, by repeat (first | exact Drawn0.refl _ | apply Drawn0.step)⟩
              · rw [if_neg c9] at H
                have c9b0 : ((bt a0 x9_1) == (bt a1 x9_1)) = false := beq_eq_false_iff_ne.mpr c9
                have c9b1 : ((bt a0 x9_1) != (bt a1 x9_1)) = true := bne_iff_ne.mpr c9
                have H' := Aside0.mk H
                clear H
                have p6 : 0 ≤ (x9_1 : Int) := of_decide_eq_true (by first | (with_reducible assumption) | assumption)
                have q6 : x9_1 < (a0.size : Int) := of_decide_eq_true (by first | (with_reducible assumption) | assumption)
                have hx6 := bt_at a0 x9_1
                replace p6 := eq_true p6
                replace q6 := eq_true q6
                have p8 : 0 ≤ (x9_1 : Int) := of_decide_eq_true (by first | (with_reducible assumption) | assumption)
                have q8 : x9_1 < (a1.size : Int) := of_decide_eq_true (by first | (with_reducible assumption) | assumption)
                have hx8 := bt_at a1 x9_1
                replace p8 := eq_true p8
                replace q8 := eq_true q8
                go_wp2
                repeat (go_quiet (fail); try go_wp2)
                go_roundg k1
                case measure => have := HK1.out; omega
                case rel => exact ⟨(wrap64 (x5_1 + 1)), (wrap64 (x9_1 + 1)), (by first | rfl | (simp; done) | (simp [*]; done)), (by first | rfl | (simp; done) | (simp [*]; done)), H', ⟨by have := HK1.out; omega⟩, by repeat (first | exact Drawn0.refl _ | apply Drawn0.step)⟩
            · rw [if_neg c7] at H
              exact absurd H (by simp)
          · rw [if_neg c5] at H
            exact absurd H (by simp)
        · rw [if_neg c4] at H
          exact absurd H (by simp)
      · rw [if_neg c3] at H
        have c3b0 : decide (x9_1 < (a0.size : Int)) = false := decide_eq_false c3
        clear c3
        obtain rfl := Option.some.inj H
        go_wp2
        repeat (go_quiet (fail); try go_wp2)
        go_ret
        exact ⟨by first | rfl | (simp; done) | (simp [*]; done), by repeat (first | exact Drawn0.refl _ | apply Drawn0.step)⟩

/-! ### impl_cardOf: function 39 -/
/-- The card of the numbers below n for which p holds. -/
def impl_cardOf.card (p : Int → Bool) (n : Nat) : List Int := ((List.range n).map fun (i : Nat) => (i : Int)).filter p
theorem impl_cardOf.card_step (p : Int → Bool) (n : Nat) : impl_cardOf.card p (n + 1) = if p n = true then impl_cardOf.card p n ++ [(n : Int)] else impl_cardOf.card p n := by
  unfold impl_cardOf.card
  rw [List.range_succ, List.map_append, List.filter_append]
  cases h : p n <;> simp [h]
theorem impl_cardOf.card_le (p : Int → Bool) (n : Nat) : (impl_cardOf.card p n).length ≤ n := by
  unfold impl_cardOf.card
  exact Nat.le_trans (List.length_filter_le _ _) (by simp)
/-- A condition on numbers below n, handed on: in every later world it answers p. -/
def impl_cardOf.Tells (g : Nat) (lb : Array Value) (n : Int) (p : Int → Bool) (w : World) : Prop :=
  ∀ (W : World) (x : Int), Below w.heap.size w W → 0 ≤ x → x < n → Calls Tryd.prog g (#[.int .i64 x] ++ lb) W fun e w' => e = .returned (.bool (p x)) ∧ Below W.heap.size W w'
set_option maxHeartbeats 8000000 in
set_option maxRecDepth 100000 in
theorem impl_cardOf.calls (g : Nat) (lb : Array Value) (eg : ∀ args w, (callFunc g args).run Tryd.prog w = .ok (.enter g args) w) (p : Int → Bool) (n : Int) (hn : 0 ≤ n ∧ n ≤ 1000000) (w : World) (hp : impl_cardOf.Tells g lb n p w) :
    Calls Tryd.prog 39 #[.int .i64 n, .func (.func g) #[] lb] w fun e w' => ∃ v0_ : Value, e = .returned v0_ ∧ Kd.R (Kd.int .i64) 3 w' w.heap.size (fun _ => True) v0_ (impl_cardOf.card p n.toNat) ∧ Below w.heap.size w w' := by
  have HP := Aside0.mk hp
  clear hp
  have HN := Aside0.mk hn
  clear hn
  have HB := Aside0.mk (Below.refl w.heap.size w)
  obtain ⟨y0, hy0⟩ : ∃ y_ : List Int, y_ = (([] : List Int)) := ⟨_, rfl⟩
  have Ny0 := Aside0.mk hy0
  clear hy0
  go_enter Tryd.func39, Tryd.ntmps39
  go_wp2_with ((with_reducible refine gate_dst (N := 7) rfl ?_); refine Kd.R_lit (Kd.int .i64) _ 3 ?hg (N := 7) ?hd (xs := ([] : List Int)) (inner := []) (ok := fun _ => True) (okp := fun _ => True) ?hr ?hp (fun _ hk => hk) trivial (Below.refl _ _) (Nat.le_refl _) (by simp) ?_; (case hd => rfl); (case hg => rfl); (case hr => first | (go_simp; done) | (go_simp; rfl)); (case hp => exact (Reps.none _ _)); intro v443 w3 ho4 hb hg_ hnew_; clear hg_ hnew_; (first | rw [← Ny0.out] at ho4 | (simp only [Int.reduceToNat] at ho4; rw [← Ny0.out] at ho4)); have n0_ := Aside0.mk (Kd.R_lower ho4 (below_size (by repeat (first | (with_reducible first | exact HB.out | apply below_alloc | apply pw_below_drewN | apply below_drew1) | exact HB.out)))); have n1_ := Aside0.mk (below_step (by repeat (first | (with_reducible first | exact HB.out | apply below_alloc | apply pw_below_drewN | apply below_drew1) | exact HB.out)) hb); clear HB; have HO444 := n0_; have HB := n1_; clear n0_ n1_; clear hb ho4)
  go_loopg [5, 6, 9] n.toNat (fun gg v5 _ v9 wr => ∃ kk : Nat, kk ≤ n.toNat ∧ n.toNat - kk ≤ gg ∧ v9 = .int .i64 kk ∧ Aside0 (Kd.R (Kd.int .i64) 3 wr w.heap.size (fun _ => True) v5 (impl_cardOf.card p kk)) ∧ Aside0 (Below w.heap.size w wr))
  case atStart => exact ⟨0, Nat.zero_le _, by omega, rfl, ⟨by rw [show impl_cardOf.card p 0 = y0 by rw [Ny0.out]; rfl]; exact HO444.out⟩, ⟨HB.out⟩⟩
  case round =>
    clear HO444 HB
    obtain ⟨kk, hkk, hg, rfl, HO, HB⟩ := hrel
    by_cases hlt : (kk : Int) < n
    · have hkn : kk < n.toNat := by omega
      have hw : wrap64 ((kk : Int) + 1) = ((kk + 1 : Nat) : Int) := by have := HN.out; unfold wrap64; omega
      have hE := impl_cardOf.card_step p kk
      have hL := impl_cardOf.card_le p kk
      cases hq : p (kk : Int) with
      | true =>
        rw [if_pos hq] at hE
        have hC : ∀ W : World, Below w.heap.size w W → Calls Tryd.prog g (#[.int .i64 (kk : Int)] ++ lb) W fun e w' => e = .returned (.bool true) ∧ Below W.heap.size W w' := fun W hb => by
          have := HP.out W kk hb (by omega) hlt
          rw [hq] at this
          exact this
        have HC := Aside0.mk hC
        clear hC hq
        obtain ⟨x5, hx5⟩ : ∃ y_ : List Int, y_ = impl_cardOf.card p kk := ⟨_, rfl⟩
        rw [← hx5] at HO hE hL
        clear hx5
        obtain ⟨y6, hy6⟩ : ∃ y_ : List Int, y_ = x5 ++ [(kk : Int)] := ⟨_, rfl⟩
        have Ny6 := Aside0.mk hy6
        have NE := Aside0.mk (hE.trans hy6.symm)
        clear hy6 hE
        have HL := Aside0.mk hL
        clear hL
        go_wp2_with (first | (go_at_fn g; refine (HC.out _ (by repeat (first | (with_reducible first | exact HB.out | apply below_alloc | apply pw_below_drewN | apply below_drew1) | exact HB.out))).mono ?_; rintro e w1 ⟨rfl, hb⟩; have n0_ := Aside0.mk (Kd.R_below (by (with_reducible repeat (first | apply Kd.R_alloc | apply Kd.R_drewN | apply Kd.R_drew)); exact HO.out) hb); have n1_ := Aside0.mk (below_step (by repeat (first | (with_reducible first | exact HB.out | apply below_alloc | apply pw_below_drewN | apply below_drew1) | exact HB.out)) hb); clear HO HB hb; have HO := n0_; have HB := n1_; clear n0_ n1_) | ((with_reducible refine gate_builtin (b := .append) (xs := #[.tmp 15, .tmp 17]) rfl ?_); at_builtin; refine Kd.R_append (Kd.int .i64) (w0 := w) w.heap.size rfl (.tmp 15) (.tmp 17) 37 3 (.int .i64 0) 8 rfl Tryd.underlying37 info3 rfl (by decide) (by omega) u5 x5 (kk : Int) [.int .i64 (kk : Int)] (fun _ => True) (fun _ => False) rfl rfl ?aP (fun _ hk => hk.elim) ?aF ?aO ?aB ?aS ?aL ?_; (case aP => exact rfl); (case aB => exact (by repeat (first | (with_reducible first | exact HB.out | apply below_alloc | apply pw_below_drewN | apply below_drew1) | exact HB.out))); (case aF => exact (fun _ _ => trivial)); (case aO => exact (by (with_reducible repeat (first | apply Kd.R_alloc | apply Kd.R_drewN | apply Kd.R_drew)); exact HO.out)); (case aS => exact (below_size (by repeat (first | (with_reducible first | exact HB.out | apply below_alloc | apply pw_below_drewN | apply below_drew1) | exact HB.out)))); (case aL => have := HL.out; have := HN.out; omega); intro v237 w13 ho hb hg1 hat; rw [← Ny6.out] at ho; have n0_ := Aside0.mk (hb); have n1_ := Aside0.mk (ho); clear HB HO; have HB := n0_; have HO := n1_; clear n0_ n1_; clear ho hb hg1 hat))
        go_roundg (n.toNat - (kk + 1))
        case measure => omega
        case rel => exact ⟨kk + 1, by omega, by omega, by first | rfl | rw [hw] | go_num, ⟨by rw [NE.out]; (with_reducible repeat (first | apply Kd.R_alloc | apply Kd.R_drewN | apply Kd.R_drew)); exact HO.out⟩, ⟨by repeat (first | (with_reducible first | exact HB.out | apply below_alloc | apply pw_below_drewN | apply below_drew1) | exact HB.out)⟩⟩
      | false =>
        rw [if_neg (by rw [hq]; simp)] at hE
        have hC : ∀ W : World, Below w.heap.size w W → Calls Tryd.prog g (#[.int .i64 (kk : Int)] ++ lb) W fun e w' => e = .returned (.bool false) ∧ Below W.heap.size W w' := fun W hb => by
          have := HP.out W kk hb (by omega) hlt
          rw [hq] at this
          exact this
        have HC := Aside0.mk hC
        clear hC hq
        have NE := Aside0.mk hE
        clear hE
        go_wp2_with (go_at_fn g; refine (HC.out _ (by repeat (first | (with_reducible first | exact HB.out | apply below_alloc | apply pw_below_drewN | apply below_drew1) | exact HB.out))).mono ?_; rintro e w1 ⟨rfl, hb⟩; have n0_ := Aside0.mk (Kd.R_below (by (with_reducible repeat (first | apply Kd.R_alloc | apply Kd.R_drewN | apply Kd.R_drew)); exact HO.out) hb); have n1_ := Aside0.mk (below_step (by repeat (first | (with_reducible first | exact HB.out | apply below_alloc | apply pw_below_drewN | apply below_drew1) | exact HB.out)) hb); clear HO HB hb; have HO := n0_; have HB := n1_; clear n0_ n1_)
        go_roundg (n.toNat - (kk + 1))
        case measure => omega
        case rel => exact ⟨kk + 1, by omega, by omega, by first | rfl | rw [hw] | go_num, ⟨by rw [NE.out]; (with_reducible repeat (first | apply Kd.R_alloc | apply Kd.R_drewN | apply Kd.R_drew)); exact HO.out⟩, ⟨by repeat (first | (with_reducible first | exact HB.out | apply below_alloc | apply pw_below_drewN | apply below_drew1) | exact HB.out)⟩⟩
    · have : kk = n.toNat := by have := HN.out; omega
      subst this
      go_wp2
      go_ret
      exact ⟨_, rfl, by (with_reducible repeat (first | apply Kd.R_alloc | apply Kd.R_drewN | apply Kd.R_drew)); exact HO.out, by repeat (first | (with_reducible first | exact HB.out | apply below_alloc | apply pw_below_drewN | apply below_drew1) | exact HB.out)⟩
/-! ### impl_NumbersWithLies: function 18 -/
def impl_NumbersWithLies.g (k : Nat) (a0_0 : Int) (l0_1 : List (List Int)) (a1 : ByteArray) (x : Int) : Option Int := (impl_Cards_answers.f k a0_0 l0_1 x).bind fun t => impl_differ.f k t a1
def impl_NumbersWithLies.f (k : Nat) (a0_0 : Int) (l0_1 : List (List Int)) (a1 : ByteArray) (a2 : Int) : Option (List Int × Bool) := (impl_areAnswers.f k a0_0 l0_1 a1).bind fun t => if t = true then ((impl_within.f a2 0 12).bind fun u => if u = true then (if 0 ≤ a0_0 ∧ a0_0 ≤ 1000000 ∧ ((List.range a0_0.toNat).all fun i => (impl_NumbersWithLies.g k a0_0 l0_1 a1 (i : Int)).isSome) = true then some (impl_cardOf.card (fun x => decide ((impl_NumbersWithLies.g k a0_0 l0_1 a1 x).getD 0 ≤ a2)) a0_0.toNat, true) else none) else some ([], false)) else some ([], false)
theorem impl_NumbersWithLies.g_mono (k : Nat) (a0_0 : Int) (l0_1 : List (List Int)) (a1 : ByteArray) (x : Int) : LeO (impl_NumbersWithLies.g k a0_0 l0_1 a1 x) (impl_NumbersWithLies.g (k + 1) a0_0 l0_1 a1 x) := by
  unfold impl_NumbersWithLies.g
  exact LeO.bind (impl_Cards_answers.mono _ _ _ _) (fun _ => impl_differ.mono _ _ _)
theorem impl_NumbersWithLies.mono : ∀ a0 a1 a2 a3 k, LeO (impl_NumbersWithLies.f k a0 a1 a2 a3) (impl_NumbersWithLies.f (k + 1) a0 a1 a2 a3) := by
  intro a0 l0 a2 a3 k r h
  unfold impl_NumbersWithLies.f at h ⊢
  obtain ⟨t, h1, h2⟩ := Option.bind_eq_some_iff.mp h
  refine Option.bind_eq_some_iff.mpr ⟨t, impl_areAnswers.mono _ _ _ _ _ h1, ?_⟩
  by_cases ht : t = true
  · rw [if_pos ht] at h2 ⊢
    obtain ⟨u, h3, h4⟩ := Option.bind_eq_some_iff.mp h2
    refine Option.bind_eq_some_iff.mpr ⟨u, h3, ?_⟩
    by_cases hu : u = true
    · rw [if_pos hu] at h4 ⊢
      by_cases hs : 0 ≤ a0 ∧ a0 ≤ 1000000 ∧ ((List.range a0.toNat).all fun i => (impl_NumbersWithLies.g k a0 l0 a2 (i : Int)).isSome) = true
      · rw [if_pos hs] at h4
        have hx : ∀ i : Nat, i < a0.toNat → impl_NumbersWithLies.g (k + 1) a0 l0 a2 (i : Int) = impl_NumbersWithLies.g k a0 l0 a2 (i : Int) := fun i hi => by
          obtain ⟨y, hy⟩ := Option.isSome_iff_exists.1 (List.all_eq_true.1 hs.2.2 i (List.mem_range.2 hi))
          rw [hy, impl_NumbersWithLies.g_mono _ _ _ _ _ _ hy]
        rw [if_pos ⟨hs.1, hs.2.1, List.all_eq_true.2 fun i hi => by rw [hx i (List.mem_range.1 hi)]; exact List.all_eq_true.1 hs.2.2 i hi⟩, ← h4]
        congr 2
        unfold impl_cardOf.card
        refine List.filter_congr fun x hx' => ?_
        obtain ⟨i, hi, rfl⟩ := List.mem_map.1 hx'
        rw [hx i (List.mem_range.1 hi)]
      · rw [if_neg hs] at h4; cases h4
    · rw [if_neg hu] at h4 ⊢; exact h4
  · rw [if_neg ht] at h2 ⊢; exact h2
def impl_NumbersWithLies.T1 : Bool × List (List Nat × List Nat) := (true, [([], []), ([], []), ([0, 1], [0, 1]), ([], []), ([2, 3, 2], [2, 3]), ([], []), ([4, 5], [4, 5]), ([6, 4, 0, 1, 2, 3, 4, 5, 6], [6])])
def impl_NumbersWithLies.B1 : List Nat := [0, 0, 3, 0, 15, 0, 63, 127]
theorem impl_NumbersWithLies.tab1 : rtab .any (opsOf Tryd.f40 1) = impl_NumbersWithLies.T1 := by kernel_rfl
theorem impl_NumbersWithLies.bits1 : waitsOk impl_NumbersWithLies.T1.2 impl_NumbersWithLies.B1 = true := by kernel_rfl
set_option maxHeartbeats 8000000 in
set_option maxRecDepth 100000 in
theorem impl_NumbersWithLies.tells (k : Nat) (n : Int) (A0 : Option Addr) (c0 : Nat) (l0 : List (List Int)) (s t : ByteArray) (x d lies : Int) (B1 B2 B3 : Nat) (W : World) (hr0 : Kd.C (Kd.slice 3 (Kd.int .i64)) W A0 l0.length l0) (hc0 : l0.length ≤ c0)
    (h1 : W.cell? ⟨B1, 0, none⟩ = some (.int .i64 n)) (h2 : W.cell? ⟨B1, 1, none⟩ = some (.slice A0 l0.length c0)) (h3 : W.cell? ⟨B2, 0, none⟩ = some (.string s)) (h4 : W.cell? ⟨B3, 0, none⟩ = some (.int .i64 lies))
    (ht : impl_Cards_answers.f k n l0 x = some t) (hd : impl_differ.f k t s = some d) :
    Calls Tryd.prog 40 #[.int .i64 x, .pointer (some ⟨B1, 0, none⟩), .pointer (some ⟨B2, 0, none⟩), .pointer (some ⟨B3, 0, none⟩)] W fun e w' => e = .returned (.bool (decide (d ≤ lies))) ∧ Below W.heap.size W w' := by
  have hu28 := Tryd.underlying28
  have HR := Aside0.mk hr0
  have HC := Aside0.mk hc0
  have HT := Aside0.mk ht
  have HD := Aside0.mk hd
  clear hr0 hc0 ht hd
  have HB := Aside0.mk (Below.refl W.heap.size W)
  have HCE := Aside0.mk (And.intro h1 (And.intro h2 (And.intro h3 h4)))
  clear h1 h2 h3 h4
  go_enter Tryd.func40, Tryd.ntmps40
  go_wp2
  refine start_ (n := 8) (S := fun w' => w'.cell? ⟨B1, 0, none⟩ = some (.int .i64 n) ∧ w'.cell? ⟨B1, 1, none⟩ = some (.slice A0 l0.length c0) ∧ w'.cell? ⟨B2, 0, none⟩ = some (.string s) ∧ w'.cell? ⟨B3, 0, none⟩ = some (.int .i64 lies)) (ds := []) #[false, false, false, false, false, false, false, false] (by kernel_rfl) rfl rfl HCE.out (fun hHeld => ?_); refine with_tabW impl_NumbersWithLies.tab1 impl_NumbersWithLies.bits1 (fun HT_ HW_ => ?_)
  replace HB := Aside0.mk (below_drew1 HB.out)
  generalize W.drew = w1 at HB hHeld ⊢
  refine pure_ (i := 1) (N := some 7) (v := ?_) (a' := ?_) #[false, true, false, false, false, false, false, false] rfl rfl (any_of HT_.out (by kernel_rfl)) (fun _ _ _ h => h) (Or.inl ⟨by rfl, ?_⟩) ?_ ?_
  rotate_left
  · intro w'
    go_simp
    with_reducible rfl
  rotate_left
  · simp only [Act.put, List.setIfInBounds_toArray, List.set_cons_zero, List.set_cons_succ, i64_w, i32_w]
    rfl
  refine take_ (i := 0) (N := some 6) (v := ?_) (a' := ?_) #[true, true, false, false, false, false, false, false] rfl rfl (take_ofW HT_.out HW_.out (by kernel_rfl)) (fun _ _ _ h => h) (Or.inl ⟨by rfl, ?_⟩) hHeld ?_ ?_
  rotate_left
  · rintro w' ⟨s0, s1, s2, s3⟩
    go_simp
    with_reducible rfl
  rotate_left
  · simp only [Act.put, List.setIfInBounds_toArray, List.set_cons_zero, List.set_cons_succ, i64_w, i32_w]
    rfl
  refine take_ (i := 3) (N := some 9) (v := ?_) (a' := ?_) #[true, true, false, true, false, false, false, false] rfl rfl (take_ofW HT_.out HW_.out (by kernel_rfl)) (fun _ _ _ h => h) (Or.inl ⟨by rfl, ?_⟩) hHeld ?_ ?_
  rotate_left
  · rintro w' ⟨s0, s1, s2, s3⟩
    go_simp
    with_reducible rfl
  rotate_left
  · simp only [Act.put, List.setIfInBounds_toArray, List.set_cons_zero, List.set_cons_succ, i64_w, i32_w]
    rfl
  refine take_ (i := 5) (N := some 11) (v := ?_) (a' := ?_) #[true, true, false, true, false, true, false, false] rfl rfl (take_ofW HT_.out HW_.out (by kernel_rfl)) (fun _ _ _ h => h) (Or.inl ⟨by rfl, ?_⟩) hHeld ?_ ?_
  rotate_left
  · rintro w' ⟨s0, s1, s2, s3⟩
    go_simp
    with_reducible rfl
  rotate_left
  · simp only [Act.put, List.setIfInBounds_toArray, List.set_cons_zero, List.set_cons_succ, i64_w, i32_w]
    rfl
  refine one_ (i := 2) (N := some 8) #[true, true, true, true, false, true, false, false] rfl rfl (one_of HT_.out (by kernel_rfl)) (by decide) (fun K hK => ?_)
  refine goes_ Tryd.func34 (by kernel_rfl) rfl #[.agg #[.int .i64 n, .slice A0 l0.length c0], .int .i64 x] (by rfl) rfl rfl (by (try simp only [List.map_toArray, List.map_cons, List.map_nil]); first | done | rfl | (simp only [List.length_drop, List.length_take]; rfl)) ?_
  with_reducible refine (impl_Cards_answers.calls k n _ _ l0 x t _ ?side1 ?side2 HT.out).mono ?_
  (case side1 => repeat (first | exact (Kd.C_below HR.out HB.out) | (with_reducible refine Kd.C_alloc ?_ _) | (with_reducible refine Kd.C_drewN ?_ _) | (with_reducible refine Kd.C_drew ?_)))
  (case side2 => exact HC.out)
  rintro e w2 ⟨rfl, hb⟩
  have hh := hHeld
  have HS_ := (fun (ad : Addr) (v : Value) (h : w1.cell? ad = some v) => (hb.cell (World.block_lt_of_cell? _ _ h)).trans h)
  refine ⟨_, rfl, ?_⟩
  replace HB := Aside0.mk (below_step HB.out hb)
  refine hK.out _ _ ⟨HS_ _ _ hHeld.1, HS_ _ _ hHeld.2.1, HS_ _ _ hHeld.2.2.1, HS_ _ _ hHeld.2.2.2⟩ (fun hHeld => ?_)
  clear hK K HS_ hb hh
  refine norm_ (a' := ?_) ?_ ?_
  rotate_left
  · show Act.put _ (some 8) _ = _
    simp only [Act.put, List.setIfInBounds_toArray, List.set_cons_zero, List.set_cons_succ, i64_w, i32_w]
    rfl
  refine one_ (i := 4) (N := some 10) #[true, true, true, true, true, true, false, false] rfl rfl (one_of HT_.out (by kernel_rfl)) (by decide) (fun K hK => ?_)
  refine goes_ Tryd.func41 (by kernel_rfl) rfl #[.string t, .string s] (by rfl) rfl rfl (by (try simp only [List.map_toArray, List.map_cons, List.map_nil]); first | done | rfl | (simp only [List.length_drop, List.length_take]; rfl)) ?_
  with_reducible refine (impl_differ.calls k t s d _ HD.out).mono ?_
  rintro e w3 ⟨rfl, q_, rfl⟩; have hb := pw_below_drewN (Below.refl w2.heap.size w2) q_
  have HS_ := (fun (ad : Addr) (v : Value) (h : w2.cell? ad = some v) => (hb.cell (World.block_lt_of_cell? _ _ h)).trans h)
  refine ⟨_, rfl, ?_⟩
  replace HB := Aside0.mk (below_step HB.out hb)
  refine hK.out _ _ ⟨HS_ _ _ hHeld.1, HS_ _ _ hHeld.2.1, HS_ _ _ hHeld.2.2.1, HS_ _ _ hHeld.2.2.2⟩ (fun hHeld => ?_)
  clear hK K HS_ hb
  refine norm_ (a' := ?_) ?_ ?_
  rotate_left
  · show Act.put _ (some 10) _ = _
    simp only [Act.put, List.setIfInBounds_toArray, List.set_cons_zero, List.set_cons_succ, i64_w, i32_w]
    rfl
  refine pure_ (i := 6) (N := some 12) (v := ?_) (a' := ?_) #[true, true, true, true, true, true, true, false] rfl rfl (any_of HT_.out (by kernel_rfl)) (fun _ _ _ h => h) (Or.inl ⟨by rfl, ?_⟩) ?_ ?_
  rotate_left
  · intro w'
    go_simp
    with_reducible rfl
  rotate_left
  · simp only [Act.put, List.setIfInBounds_toArray, List.set_cons_zero, List.set_cons_succ, i64_w, i32_w]
    rfl
  refine pure_ (i := 7) (N := some 5) (v := ?_) (a' := ?_) #[true, true, true, true, true, true, true, true] rfl rfl (any_of HT_.out (by kernel_rfl)) (fun _ _ _ h => h) (Or.inl ⟨by rfl, ?_⟩) ?_ ?_
  rotate_left
  · intro w'
    go_simp
    with_reducible rfl
  rotate_left
  · simp only [Act.put, List.setIfInBounds_toArray, List.set_cons_zero, List.set_cons_succ, i64_w, i32_w]
    rfl
  refine done_ (done_of HT_.out (by kernel_rfl)) ?_
  try go_wp2
  go_ret
  exact ⟨rfl, HB.out⟩
set_option maxHeartbeats 8000000 in
set_option maxRecDepth 100000 in
theorem impl_NumbersWithLies.calls (k : Nat) (a0_0 : Int) (A0_1 : Option Addr) (c0_1 : Nat) (l0_1 : List (List Int)) (a1 : ByteArray) (a2 : Int) (r1 : List Int) (r2 : Bool) (w : World) (hr0_1 : Kd.C (Kd.slice 3 (Kd.int .i64)) w A0_1 l0_1.length l0_1) (hc0_1 : l0_1.length ≤ c0_1) (h : impl_NumbersWithLies.f k a0_0 l0_1 a1 a2 = some (r1, r2)) :
    Calls Tryd.prog 18 #[.agg #[.int .i64 a0_0, .slice A0_1 l0_1.length c0_1], .string a1, .int .i64 a2] w fun e w' => ∃ v0_ : Value, e = .returned (.tuple #[v0_, .bool r2]) ∧ Kd.R (Kd.int .i64) 3 w' w.heap.size (fun _ => True) v0_ r1 ∧ Below w.heap.size w w' := by
  have hu28 := Tryd.underlying28
  obtain ⟨t, h1, h2⟩ := Option.bind_eq_some_iff.1 h
  clear h
  have HR := Aside0.mk hr0_1
  have HC := Aside0.mk hc0_1
  clear hr0_1 hc0_1
  let Cells : World → Prop := fun W => W.cell? ⟨w.heap.size, 0, none⟩ = some (.int .i64 a0_0) ∧ W.cell? ⟨w.heap.size, 1, none⟩ = some (.slice A0_1 l0_1.length c0_1) ∧ W.cell? ⟨w.heap.size + 1, 0, none⟩ = some (.string a1) ∧ W.cell? ⟨w.heap.size + 1 + 1, 0, none⟩ = some (.int .i64 a2)
  have keep : ∀ W W' : World, Below W.heap.size W W' → Cells W → Cells W' := fun W W' hb ⟨k0, k1, k2, k3⟩ => ⟨(hb.cell (World.block_lt_of_cell? _ _ k0)).trans k0, (hb.cell (World.block_lt_of_cell? _ _ k1)).trans k1, (hb.cell (World.block_lt_of_cell? _ _ k2)).trans k2, (hb.cell (World.block_lt_of_cell? _ _ k3)).trans k3⟩
  have hA : ∀ W : World, Below w.heap.size w W → Cells W → Calls Tryd.prog 29 #[.agg #[.int .i64 a0_0, .slice A0_1 l0_1.length c0_1], .string a1] W fun e w' => e = .returned (.bool t) ∧ Below w.heap.size w w' ∧ Cells w' :=
    fun W hb hc => (impl_areAnswers.calls k a0_0 A0_1 c0_1 l0_1 a1 t W (Kd.C_below HR.out hb) HC.out h1).mono fun e w' h => ⟨h.1, below_step hb h.2, keep _ _ h.2 hc⟩
  have HA := Aside0.mk hA
  clear hA h1
  have b0 : Below w.heap.size w (((w.alloc (.cells #[.int .i64 a0_0, .slice A0_1 l0_1.length c0_1] 28)).alloc (.cells #[.string a1] 9)).alloc (.cells #[.int .i64 a2] 3)) := (((Below.refl _ w).alloc (Nat.le_refl _) _).alloc (by simp) _).alloc (by simp; omega) _
  have c0 : Cells (((w.alloc (.cells #[.int .i64 a0_0, .slice A0_1 l0_1.length c0_1] 28)).alloc (.cells #[.string a1] 9)).alloc (.cells #[.int .i64 a2] 3)) := ⟨by show World.cell? _ _ = _; first | (go_simp; done) | (simp [World.cell?, World.alloc]; done) | (simp [World.cell?, World.alloc, Array.getElem?_push]; done), by show World.cell? _ _ = _; first | (go_simp; done) | (simp [World.cell?, World.alloc]; done) | (simp [World.cell?, World.alloc, Array.getElem?_push]; done), by show World.cell? _ _ = _; first | (go_simp; done) | (simp [World.cell?, World.alloc]; done) | (simp [World.cell?, World.alloc, Array.getElem?_push]; done), by show World.cell? _ _ = _; first | (go_simp; done) | (simp [World.cell?, World.alloc]; done) | (simp [World.cell?, World.alloc, Array.getElem?_push]; done)⟩
  have HB0 := Aside0.mk b0
  have HC0 := Aside0.mk c0
  clear b0 c0
  cases t with
  | false =>
    obtain ⟨rfl, rfl⟩ : [] = r1 ∧ false = r2 := by simpa using (if_neg (by simp)).symm.trans h2
    clear h2
    go_enter Tryd.func18, Tryd.ntmps18
    go_wp2_with (go_at_call 29; refine (HA.out _ HB0.out HC0.out).mono ?_; rintro e W1 ⟨rfl, hb, hcell⟩)
    go_ret2
    exact ⟨_, rfl, Kd.R_nil _ _ _ _ _, hb⟩
  | true =>
    rw [if_pos rfl] at h2
    obtain ⟨u, h3, h4⟩ := Option.bind_eq_some_iff.1 h2
    clear h2
    have hW : ∀ W : World, Below w.heap.size w W → Cells W → Calls Tryd.prog 38 #[.int .i64 a2, .int .i64 0, .int .i64 12] W fun e w' => e = .returned (.bool u) ∧ Below w.heap.size w w' ∧ Cells w' :=
      fun W hb hc => (impl_within.calls a2 0 12 u W h3).mono fun e w' h => ⟨h.1, by obtain ⟨q, rfl⟩ := h.2; exact pw_below_drewN hb q, by obtain ⟨q, rfl⟩ := h.2; exact keep _ _ (pw_below_drewN (Below.refl _ W) q) hc⟩
    have HW := Aside0.mk hW
    clear hW h3
    cases u with
    | false =>
      obtain ⟨rfl, rfl⟩ : [] = r1 ∧ false = r2 := by simpa using (if_neg (by simp)).symm.trans h4
      clear h4
      go_enter Tryd.func18, Tryd.ntmps18
      go_wp2_with (first | (go_at_call 29; refine (HA.out _ HB0.out HC0.out).mono ?_; rintro e W1 ⟨rfl, hb1, hc1⟩; obtain ⟨k0, k1, k2, k3⟩ := id hc1) | (go_at_call 38; refine (HW.out _ hb1 hc1).mono ?_; rintro e W2 ⟨rfl, hb2, hc2⟩))
      go_ret2
      exact ⟨_, rfl, Kd.R_nil _ _ _ _ _, hb2⟩
    | true =>
      rw [if_pos rfl] at h4
      by_cases hs : 0 ≤ a0_0 ∧ a0_0 ≤ 1000000 ∧ ((List.range a0_0.toNat).all fun i => (impl_NumbersWithLies.g k a0_0 l0_1 a1 (i : Int)).isSome) = true
      · rw [if_pos hs] at h4
        obtain ⟨rfl, rfl⟩ : impl_cardOf.card (fun x => decide ((impl_NumbersWithLies.g k a0_0 l0_1 a1 x).getD 0 ≤ a2)) a0_0.toNat = r1 ∧ true = r2 := by simpa using h4
        clear h4
        have eg : ∀ args w, (callFunc 40 args).run Tryd.prog w = .ok (.enter 40 args) w := fun args w => by go_simp
        have hO : ∀ W : World, Below w.heap.size w W → Cells W → Calls Tryd.prog 39 #[.int .i64 a0_0, .func (.func 40) #[] #[.pointer (some ⟨w.heap.size, 0, none⟩), .pointer (some ⟨w.heap.size + 1, 0, none⟩), .pointer (some ⟨w.heap.size + 1 + 1, 0, none⟩)]] W
            fun e w' => ∃ v0_ : Value, e = .returned v0_ ∧ Kd.R (Kd.int .i64) 3 w' w.heap.size (fun _ => True) v0_ (impl_cardOf.card (fun x => decide ((impl_NumbersWithLies.g k a0_0 l0_1 a1 x).getD 0 ≤ a2)) a0_0.toNat) ∧ Below w.heap.size w w' :=
          fun W hb hc => (impl_cardOf.calls 40 _ eg (fun x => decide ((impl_NumbersWithLies.g k a0_0 l0_1 a1 x).getD 0 ≤ a2)) a0_0 ⟨hs.1, hs.2.1⟩ W (fun W' x hb' hx0 hx1 => by
            obtain ⟨k0, k1, k2, k3⟩ := keep _ _ hb' hc
            obtain ⟨d, hd⟩ := Option.isSome_iff_exists.1 (List.all_eq_true.1 hs.2.2 x.toNat (List.mem_range.2 (by omega)))
            rw [show ((x.toNat : Nat) : Int) = x by omega] at hd
            obtain ⟨t, ht, hd'⟩ := Option.bind_eq_some_iff.1 (show (impl_Cards_answers.f k a0_0 l0_1 x).bind _ = some d from hd)
            have := impl_NumbersWithLies.tells k a0_0 A0_1 c0_1 l0_1 a1 t x d a2 _ _ _ W' (Kd.C_below HR.out (below_step hb hb')) HC.out k0 k1 k2 k3 ht hd'
            simp only [hd, Option.getD_some]
            exact this)).mono fun e w' ⟨v, h1, h2, h3⟩ => ⟨v, h1, Kd.R_lower h2 (below_size hb), below_step hb h3⟩
        have HO := Aside0.mk hO
        clear hO hs
        go_enter Tryd.func18, Tryd.ntmps18
        go_wp2_with (first | (go_at_call 29; refine (HA.out _ HB0.out HC0.out).mono ?_; rintro e W1 ⟨rfl, hb1, hc1⟩; obtain ⟨k0, k1, k2, k3⟩ := id hc1) | (go_at_call 38; refine (HW.out _ hb1 hc1).mono ?_; rintro e W2 ⟨rfl, hb2, hc2⟩; clear k0 k1 k2 k3; obtain ⟨k0, k1, k2, k3⟩ := id hc2) | (go_at_call 39; refine (HO.out _ hb2 hc2).mono ?_; rintro e W3 ⟨v, rfl, hv, hb3⟩))
        go_ret2
        exact ⟨_, rfl, hv, hb3⟩
      · rw [if_neg hs] at h4; cases h4

end Go.Proofs.YtpekdmadmggbpaaDoor.Nl
