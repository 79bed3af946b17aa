/- Functions of the program and of the reference as Lean functions, and the contracts of their calls: laid by a program of this repo (wip/gen.py), in part by hand. -/
import Derived.Test.YtbaodkllldhbmaaGx0
import Derived.Test.YtbaodkllldhbmaaGx2
namespace Go.Proofs.Ytbaodkllldhbmaa.G
open Go.RowKit Go.Proofs.YtbaodkllldhbmaaW.PrintWords Go.Proofs.YtbaodkllldhbmaaW.PrintLast Go.Proofs.YtbaodkllldhbmaaW.PrintMore
attribute [local go_sem] max2_int min2_int max_two min_two max_three min_three max_four min_four   -- for this text's walks alone
set_option linter.unusedVariables false
set_option linter.unusedSimpArgs false

/-! ### impl_AreCoins: function 31 -/
def impl_AreCoins.f (k : Nat) (l0 : List Int) : Option (Bool) := (impl_within.f (l0.length : Int) 1 8).bind fun t126 => (if t126 = true then ((impl_areWithin.f l0 1 1000).bind fun t127 => (if t127 = true then ((impl_rises.f k l0).bind fun t128 => (some t128)) else (some false))) else (some false))
theorem impl_AreCoins.mono : ∀ a0 k, LeO (impl_AreCoins.f k a0) (impl_AreCoins.f (k + 1) a0) := by
  intro a0 k
  unfold impl_AreCoins.f
  repeat' first
      | (with_reducible exact impl_rises.mono _ _)
      | (with_reducible exact LeO.refl _)
      | (with_reducible exact LeO.none _)
      | (with_reducible refine LeO.ite ?_ ?_)
      | (with_reducible refine LeO.bind ?_ (fun _ => ?_))
      | exact impl_rises.mono _ _
      | exact LeO.none _
      | refine LeO.ite ?_ ?_
      | refine LeO.bind ?_ (fun _ => ?_)
set_option maxHeartbeats 8000000 in
set_option maxRecDepth 100000 in
theorem impl_AreCoins.calls (k : Nat) (A0 : Option Addr) (c0 : Nat) (l0 : List Int) (r : Bool) (w : World) (hr0 : Kd.C (Kd.int .i64) w A0 l0.length l0) (hc0 : l0.length ≤ c0) (h : impl_AreCoins.f k l0 = some r) :
    Calls Try.prog 31 #[.slice A0 l0.length c0] w fun e w' => e = .returned (.bool r) ∧ Below w.heap.size w w' := by
  have HR0 := Aside0.mk hr0
  have HC0 := Aside0.mk hc0
  clear hr0 hc0
  have HB := Aside0.mk (Below.refl w.heap.size w)
  have H : ((impl_within.f (l0.length : Int) 1 8).bind fun t126 => (if t126 = true then ((impl_areWithin.f l0 1 1000).bind fun t127 => (if t127 = true then ((impl_rises.f k l0).bind fun t128 => (some t128)) else (some false))) else (some false))) = some r := h
  clear h
  replace H := Option.bind_eq_some_iff.mp H
  obtain ⟨t126, A20, H⟩ := H
  replace H : (if t126 = true then ((impl_areWithin.f l0 1 1000).bind fun t127 => (if t127 = true then ((impl_rises.f k l0).bind fun t128 => (some t128)) else (some false))) else (some false)) = some r := H
  have A2 := Aside0.mk A20
  clear A20
  by_cases c3 : t126 = true
  · subst c3
    have H1 : ((impl_areWithin.f l0 1 1000).bind fun t127 => (if t127 = true then ((impl_rises.f k l0).bind fun t128 => (some t128)) else (some false))) = some r := by rw [if_pos rfl] at H; exact H
    clear H
    have H := H1
    clear H1
    replace H := Option.bind_eq_some_iff.mp H
    obtain ⟨t127, A40, H⟩ := H
    replace H : (if t127 = true then ((impl_rises.f k l0).bind fun t128 => (some t128)) else (some false)) = some r := H
    have A4 := Aside0.mk A40
    clear A40
    by_cases c5 : t127 = true
    · subst c5
      have H1 : ((impl_rises.f k l0).bind fun t128 => (some t128)) = some r := by rw [if_pos rfl] at H; exact H
      clear H
      have H := H1
      clear H1
      replace H := Option.bind_eq_some_iff.mp H
      obtain ⟨t128, A60, H⟩ := H
      replace H : (some t128) = some r := H
      have A6 := Aside0.mk A60
      clear A60
      obtain rfl := Option.some.inj H
      go_enter Try.func31, Try.ntmps31
      go_wp2_with (first | ((with_reducible refine gate_callee (f := 32) rfl ?_); refine goesL_ (some 5) rfl rfl Try.func32 (by kernel_rfl) rfl #[.int .i64 (l0.length : Int), .int .i64 1, .int .i64 8] rfl (by (try simp only [List.map_toArray, List.map_cons, List.map_nil]); first | done | rfl | (simp only [List.length_drop, List.length_take]; rfl)) ?_; (with_reducible refine (impl_within.calls (l0.length : Int) 1 8 true _ A2.out).mono ?_); rintro e w' ⟨rfl, ⟨nd, rfl⟩⟩; refine ⟨_, rfl, ?_⟩) | (go_at_call 38; (with_reducible refine (impl_areWithin.calls _ _ l0 1 1000 true _ ?side1 ?side2 A4.out).mono ?_); (case side1 => repeat (first | exact HR0.out | (with_reducible refine Kd.C_alloc ?_ _) | (with_reducible refine Kd.C_drewN ?_ _) | (with_reducible refine Kd.C_drew ?_))); (case side2 => exact HC0.out); rintro e w7 ⟨rfl, hb⟩; have n0_ := Aside0.mk (below_step (by repeat (first | (with_reducible first | exact HB.out | apply below_alloc | apply pw_below_drewN | apply below_drew1) | exact HB.out)) hb); clear HB; have HB := n0_; clear n0_; (try clear hb); (try clear hb2); (try clear hk); (try clear hi)) | (go_at_call 39; (with_reducible refine (impl_rises.calls k _ _ l0 t128 _ ?side1 ?side2 A6.out).mono ?_); (case side1 => repeat (first | exact (Kd.C_below HR0.out HB.out) | (with_reducible refine Kd.C_alloc ?_ _) | (with_reducible refine Kd.C_drewN ?_ _) | (with_reducible refine Kd.C_drew ?_))); (case side2 => exact HC0.out); rintro e w' ⟨rfl, ⟨nd, rfl⟩⟩))
      go_ret
      exact ⟨by first | rfl | (simp [errW_none, errW_some] <;> rfl) | (simp [*, errW_none, errW_some] <;> rfl), by repeat (first | (with_reducible first | exact HB.out | apply below_alloc | apply pw_below_drewN | apply below_drew1) | exact HB.out)⟩
    · replace c5 := Bool.eq_false_iff.mpr c5
      subst c5
      have H1 : (some false) = some r := by rw [if_neg (show ¬ (false = true) by decide)] at H; exact H
      clear H
      have H := H1
      clear H1
      obtain rfl := Option.some.inj H
      go_enter Try.func31, Try.ntmps31
      go_wp2_with (first | ((with_reducible refine gate_callee (f := 32) rfl ?_); refine goesL_ (some 5) rfl rfl Try.func32 (by kernel_rfl) rfl #[.int .i64 (l0.length : Int), .int .i64 1, .int .i64 8] rfl (by (try simp only [List.map_toArray, List.map_cons, List.map_nil]); first | done | rfl | (simp only [List.length_drop, List.length_take]; rfl)) ?_; (with_reducible refine (impl_within.calls (l0.length : Int) 1 8 true _ A2.out).mono ?_); rintro e w' ⟨rfl, ⟨nd, rfl⟩⟩; refine ⟨_, rfl, ?_⟩) | (go_at_call 38; (with_reducible refine (impl_areWithin.calls _ _ l0 1 1000 false _ ?side1 ?side2 A4.out).mono ?_); (case side1 => repeat (first | exact HR0.out | (with_reducible refine Kd.C_alloc ?_ _) | (with_reducible refine Kd.C_drewN ?_ _) | (with_reducible refine Kd.C_drew ?_))); (case side2 => exact HC0.out); rintro e w8 ⟨rfl, hb⟩; have n0_ := Aside0.mk (below_step (by repeat (first | (with_reducible first | exact HB.out | apply below_alloc | apply pw_below_drewN | apply below_drew1) | exact HB.out)) hb); clear HB; have HB := n0_; clear n0_; (try clear hb); (try clear hb2); (try clear hk); (try clear hi)))
      go_ret
      exact ⟨by first | rfl | (simp [errW_none, errW_some] <;> rfl) | (simp [*, errW_none, errW_some] <;> rfl), by repeat (first | (with_reducible first | exact HB.out | apply below_alloc | apply pw_below_drewN | apply below_drew1) | exact HB.out)⟩
  · replace c3 := Bool.eq_false_iff.mpr c3
    subst c3
    have H1 : (some false) = some r := by rw [if_neg (show ¬ (false = true) by decide)] at H; exact H
    clear H
    have H := H1
    clear H1
    obtain rfl := Option.some.inj H
    go_enter Try.func31, Try.ntmps31
    go_wp2_with (first | ((with_reducible refine gate_callee (f := 32) rfl ?_); refine goesL_ (some 5) rfl rfl Try.func32 (by kernel_rfl) rfl #[.int .i64 (l0.length : Int), .int .i64 1, .int .i64 8] rfl (by (try simp only [List.map_toArray, List.map_cons, List.map_nil]); first | done | rfl | (simp only [List.length_drop, List.length_take]; rfl)) ?_; (with_reducible refine (impl_within.calls (l0.length : Int) 1 8 false _ A2.out).mono ?_); rintro e w' ⟨rfl, ⟨nd, rfl⟩⟩; refine ⟨_, rfl, ?_⟩))
    go_ret
    exact ⟨by first | rfl | (simp [errW_none, errW_some] <;> rfl) | (simp [*, errW_none, errW_some] <;> rfl), by repeat (first | (with_reducible first | exact HB.out | apply below_alloc | apply pw_below_drewN | apply below_drew1) | exact HB.out)⟩

/-! ### impl_isAmount: function 24 -/
def impl_isAmount.f (k : Nat) (l0 : List Int) (a1 : Int) : Option (Bool) := (impl_AreCoins.f k l0).bind fun t129 => (if t129 = true then ((impl_within.f a1 0 20000).bind fun t130 => (some t130)) else (some false))
theorem impl_isAmount.mono : ∀ a0 a1 k, LeO (impl_isAmount.f k a0 a1) (impl_isAmount.f (k + 1) a0 a1) := by
  intro a0 a1 k
  unfold impl_isAmount.f
  repeat' first
      | (with_reducible exact impl_AreCoins.mono _ _)
      | (with_reducible exact LeO.refl _)
      | (with_reducible exact LeO.none _)
      | (with_reducible refine LeO.ite ?_ ?_)
      | (with_reducible refine LeO.bind ?_ (fun _ => ?_))
      | exact impl_AreCoins.mono _ _
      | exact LeO.none _
      | refine LeO.ite ?_ ?_
      | refine LeO.bind ?_ (fun _ => ?_)
set_option maxHeartbeats 8000000 in
set_option maxRecDepth 100000 in
theorem impl_isAmount.calls (k : Nat) (A0 : Option Addr) (c0 : Nat) (l0 : List Int) (a1 : Int) (r : Bool) (w : World) (hr0 : Kd.C (Kd.int .i64) w A0 l0.length l0) (hc0 : l0.length ≤ c0) (h : impl_isAmount.f k l0 a1 = some r) :
    Calls Try.prog 24 #[.slice A0 l0.length c0, .int .i64 a1] w fun e w' => e = .returned (.bool r) ∧ Below w.heap.size w w' := by
  have HR0 := Aside0.mk hr0
  have HC0 := Aside0.mk hc0
  clear hr0 hc0
  have HB := Aside0.mk (Below.refl w.heap.size w)
  have H : ((impl_AreCoins.f k l0).bind fun t129 => (if t129 = true then ((impl_within.f a1 0 20000).bind fun t130 => (some t130)) else (some false))) = some r := h
  clear h
  replace H := Option.bind_eq_some_iff.mp H
  obtain ⟨t129, A30, H⟩ := H
  replace H : (if t129 = true then ((impl_within.f a1 0 20000).bind fun t130 => (some t130)) else (some false)) = some r := H
  have A3 := Aside0.mk A30
  clear A30
  by_cases c4 : t129 = true
  · subst c4
    have H1 : ((impl_within.f a1 0 20000).bind fun t130 => (some t130)) = some r := by rw [if_pos rfl] at H; exact H
    clear H
    have H := H1
    clear H1
    replace H := Option.bind_eq_some_iff.mp H
    obtain ⟨t130, A50, H⟩ := H
    replace H : (some t130) = some r := H
    have A5 := Aside0.mk A50
    clear A50
    obtain rfl := Option.some.inj H
    go_enter Try.func24, Try.ntmps24
    go_wp2_with (first | ((with_reducible refine gate_callee (f := 31) rfl ?_); refine goesL_ (some 6) rfl rfl Try.func31 (by kernel_rfl) rfl #[.slice A0 l0.length c0] rfl (by (try simp only [List.map_toArray, List.map_cons, List.map_nil]); first | done | rfl | (simp only [List.length_drop, List.length_take]; rfl)) ?_; (with_reducible refine (impl_AreCoins.calls k _ _ l0 true _ ?side1 ?side2 A3.out).mono ?_); (case side1 => repeat (first | exact HR0.out | (with_reducible refine Kd.C_alloc ?_ _) | (with_reducible refine Kd.C_drewN ?_ _) | (with_reducible refine Kd.C_drew ?_))); (case side2 => exact HC0.out); rintro e w6 ⟨rfl, hb⟩; refine ⟨_, rfl, ?_⟩; have n0_ := Aside0.mk (below_step (by repeat (first | (with_reducible first | exact HB.out | apply below_alloc | apply pw_below_drewN | apply below_drew1) | exact HB.out)) hb); clear HB; have HB := n0_; clear n0_; (try clear hb); (try clear hb2); (try clear hk); (try clear hi)) | (go_at_call 32; (with_reducible refine (impl_within.calls a1 0 20000 t130 _ A5.out).mono ?_); rintro e w' ⟨rfl, ⟨nd, rfl⟩⟩))
    go_ret
    exact ⟨by first | rfl | (simp [errW_none, errW_some] <;> rfl) | (simp [*, errW_none, errW_some] <;> rfl), by repeat (first | (with_reducible first | exact HB.out | apply below_alloc | apply pw_below_drewN | apply below_drew1) | exact HB.out)⟩
  · replace c4 := Bool.eq_false_iff.mpr c4
    subst c4
    have H1 : (some false) = some r := by rw [if_neg (show ¬ (false = true) by decide)] at H; exact H
    clear H
    have H := H1
    clear H1
    obtain rfl := Option.some.inj H
    go_enter Try.func24, Try.ntmps24
    go_wp2_with (first | ((with_reducible refine gate_callee (f := 31) rfl ?_); refine goesL_ (some 6) rfl rfl Try.func31 (by kernel_rfl) rfl #[.slice A0 l0.length c0] rfl (by (try simp only [List.map_toArray, List.map_cons, List.map_nil]); first | done | rfl | (simp only [List.length_drop, List.length_take]; rfl)) ?_; (with_reducible refine (impl_AreCoins.calls k _ _ l0 false _ ?side1 ?side2 A3.out).mono ?_); (case side1 => repeat (first | exact HR0.out | (with_reducible refine Kd.C_alloc ?_ _) | (with_reducible refine Kd.C_drewN ?_ _) | (with_reducible refine Kd.C_drew ?_))); (case side2 => exact HC0.out); rintro e w7 ⟨rfl, hb⟩; refine ⟨_, rfl, ?_⟩; have n0_ := Aside0.mk (below_step (by repeat (first | (with_reducible first | exact HB.out | apply below_alloc | apply pw_below_drewN | apply below_drew1) | exact HB.out)) hb); clear HB; have HB := n0_; clear n0_; (try clear hb); (try clear hb2); (try clear hk); (try clear hi)))
    go_ret
    exact ⟨by first | rfl | (simp [errW_none, errW_some] <;> rfl) | (simp [*, errW_none, errW_some] <;> rfl), by repeat (first | (with_reducible first | exact HB.out | apply below_alloc | apply pw_below_drewN | apply below_drew1) | exact HB.out)⟩

-- NOT PRINTED: function 35 (slices_Backward_int_int)

attribute [local go_sem] Oper.semAt_some
/-- A row of whole numbers that the call owns, as the print tells one. -/
theorem R_of_nums {W : World} {base : Nat} {v : Value} {xs : List Int} (h : W.ownsRow base 3 1 v xs.length (nums .i64 xs)) : Kd.R (Kd.int .i64) 3 W base (fun _ => True) v xs := by
  refine ⟨fun _ _ => trivial, nums .i64 xs, h, (by show (nums .i64 xs).length = xs.length * 1; simp [nums]), fun j p hj => ?_⟩
  obtain ⟨hl, rfl⟩ := List.getElem?_eq_some_iff.1 hj
  show ((nums .i64 xs).drop (j * 1)).take 1 = [Value.int .i64 xs[j]]
  rw [Nat.mul_one, List.drop_eq_getElem_cons (by simpa [nums] using hl)]
  simp [nums]
/-! ### slices.Backward: functions 35, 42 -/
/-- What a round keeps: all below n₀, and the box of the slice. -/
def KeptB (n₀ Bs : Nat) (W W' : World) : Prop := Below n₀ W W' ∧ W'.heap[Bs]? = W.heap[Bs]?
theorem KeptB.refl (n₀ Bs : Nat) (W : World) : KeptB n₀ Bs W W := ⟨Below.refl _ _, rfl⟩
theorem KeptB.trans {n₀ Bs : Nat} {A B C : World} (h : KeptB n₀ Bs A B) (k : KeptB n₀ Bs B C) : KeptB n₀ Bs A C := ⟨h.1.trans k.1, k.2.trans h.2⟩
theorem KeptB.box {n₀ Bs : Nat} {A B : World} (h : KeptB n₀ Bs A B) (o : Nat) : B.cell? ⟨Bs, o, none⟩ = A.cell? ⟨Bs, o, none⟩ := World.cell?_of_block h.2
theorem KeptB.put {n₀ Bs : Nat} {w : World} (hn : n₀ ≤ w.heap.size) (hb : Bs < w.heap.size) (W : World) (l : Nat) (o o' : Obj) (hl : w.heap.size ≤ l) (h : W.heap[l]? = some o) (hc : o.isCells = false) (hw : o.isWalk = false) : KeptB n₀ Bs W (W.putObj l o') :=
  ⟨belowK_b hn W l o o' hl h hc hw, (grownBy_putObj' W l o').block Bs (by have := (Array.getElem?_eq_some_iff.1 h).1; omega) (fun e => by cases e; omega)⟩
set_option maxRecDepth 100000 in
set_option maxHeartbeats 4000000 in
theorem backward1 (F : Fence) (n : Nat) (h8 : F.fn 42) (hro : F.round = none) (hn : 1 ≤ n) (l Bs n₀ : Nat) (A0 : Option Addr) (c0 : Nat) (l0 : List Int) (hreach : l0.length ≤ 35184372088832)
    (J Jx : List (Fin l0.length) → World → Prop)
    (hY : ∀ pre (x : Fin l0.length) W, J pre W → pre.length < l0.length → YieldAt F (n - 1) Try.prog l #[.int .i64 (x.1 : Int), .int .i64 (rd l0 (x.1 : Int))] W fun e W' =>
      (e = .returned (.bool true) ∧ J (pre ++ [x]) W' ∧ KeptB n₀ Bs W W') ∨ (e = .returned (.bool false) ∧ Jx (pre ++ [x]) W'))
    (W : World) (hlt : ∀ ad, A0 = some ad → 0 < l0.length → ad.block < n₀) (hBs : W.cell? ⟨Bs, 0, none⟩ = some (.slice A0 l0.length c0)) (hc : Kd.C (Kd.int .i64) W A0 l0.length l0) (h0 : J [] W) :
    CallsIn F n Try.prog 42 #[.func (.yield l) #[] #[], .pointer (some ⟨Bs, 0, none⟩)] W fun e W' => (∃ v, e = .returned v) ∧
      ((∃ ys : List (Fin l0.length), ys.map (fun x => x.1) = (List.range l0.length).reverse ∧ J ys W') ∨ (∃ pre : List (Fin l0.length), Jx pre W')) := by
  have HC := Aside0.mk hc
  have HL := Aside0.mk hlt
  clear hc hlt
  refine callsIn_of_wp Try.func42 rfl h8 ?_ hro
  simp only [Try.ntmps42, List.size_toArray, List.length_cons, List.length_nil, Nat.reduceAdd, Nat.reduceSub, Array.replicate_succ, Array.replicate_zero, List.push_toArray, List.append_toArray, List.nil_append, List.cons_append]
  gi_wp2
  gi_loopw [3] (fun i wr => ∃ (j : Nat) (pre : List (Fin l0.length)), j ≤ l0.length ∧ i = .int .i64 ((j : Int) - 1) ∧ pre.map (fun x => x.1) = ((List.range l0.length).drop j).reverse ∧ J pre wr ∧ KeptB n₀ Bs W wr)
    (fun i _ => ((intOf i) + 1).toNat)
  case atStart => exact ⟨l0.length, [], Nat.le_refl _, rfl, by simp, h0, KeptB.refl _ _ _⟩
  case round =>
    obtain ⟨j, pre, hj, rfl, hpre, hJs, hnx⟩ := hrel
    have hbs' : wr.cell? ⟨Bs, 0, none⟩ = some (.slice A0 l0.length c0) := (hnx.box 0).trans hBs
    clear hBs
    cases j with
    | zero =>
      gi_wp2
      go_end0
      exact ⟨⟨_, rfl⟩, .inl ⟨pre, by simpa using hpre, hJs⟩⟩
    | succ m =>
      have hm : m < l0.length := by omega
      have hpl : pre.length < l0.length := by
        have := congrArg List.length hpre
        simp at this; omega
      have e1 : (((m + 1 : Nat) : Int) - 1) = (m : Int) := by omega
      rw [e1]
      obtain ⟨ad, ead, hcell⟩ := Kd.at_int HC.out (m : Int) (by omega) (by omega)
      cases ead
      have hbl : ad.block < n₀ := HL.out ad rfl (by omega)
      rw [Int.toNat_natCast] at hcell
      have hcell' : wr.cell? (ad.add m) = some (.int .i64 (rd l0 (m : Int))) := (hnx.1.cell (p := ad.add m) (by rw [add_block]; exact hbl)).trans hcell
      clear hcell
      have hmz : (m : Int) < (l0.length : Int) := by omega
      obtain ⟨fn, tmps, assign, body, hy, hR⟩ := hY pre ⟨m, hm⟩ wr hJs hpl
      dsimp only at hy
      have hpre' : Aside0 ((pre ++ [(⟨m, hm⟩ : Fin l0.length)]).map (fun x => x.1) = ((List.range l0.length).drop m).reverse) := ⟨by
        rw [List.map_append, hpre, show (List.range l0.length).drop m = m :: (List.range l0.length).drop (m + 1) by rw [List.drop_eq_getElem_cons (by simpa using hm)]; simp]
        simp⟩
      clear hpre
      gi_wp2
      refine hR.mono ?_
      rintro e W3 (⟨rfl, hJ3, hk3⟩ | ⟨rfl, hJx3⟩)
      · gi_wp2
        go_roundw
        case rel => exact ⟨m, pre ++ [⟨m, hm⟩], by omega, rfl, hpre'.out, hJ3, hnx.trans hk3⟩
        case measure => simp [intOf]
      · gi_wp2
        refine bodyPost_ret (results_none rfl _ _ _) rfl ?_
        exact ⟨⟨_, rfl⟩, .inr ⟨_, hJx3⟩⟩
theorem backward_in (F : Fence) (n : Nat) (h6 : F.fn 35) (hro : F.round = none) (a : Option Addr) (len cap : Nat) (w : World) :
    CallsIn F n Try.prog 35 #[.slice a len cap] w fun e w' => e = .returned (.func (.func 42) #[] #[.pointer (some ⟨w.heap.size, 0, none⟩)]) ∧ w' = w.alloc (.cells #[.slice a len cap] 22) := by
  refine callsIn_of_wp Try.func35 rfl h6 ?_ hro
  simp only [Try.ntmps35, List.size_toArray, List.length_cons, List.length_nil, Nat.reduceAdd, Nat.reduceSub, Array.replicate_succ, Array.replicate_zero, List.push_toArray, List.append_toArray, List.nil_append, List.cons_append]
  gi_wp2
  go_ret
  exact ⟨rfl, rfl⟩
theorem backward_stops (F : Fence) (n : Nat) (h8 : F.fn 42) (hro : F.round = none) (hn : 1 ≤ n) (Bs n₀ : Nat) (A0 : Option Addr) (c0 : Nat) (l0 : List Int) (hreach : l0.length ≤ 35184372088832) (w : World) (hBs : Bs < w.heap.size) (hn₀ : n₀ ≤ w.heap.size)
    (hlt : ∀ ad, A0 = some ad → 0 < l0.length → ad.block < n₀) (hc : w.cell? ⟨Bs, 0, none⟩ = some (.slice A0 l0.length c0)) (hI : Kd.C (Kd.int .i64) w A0 l0.length l0) :
    SeqStopsK F n Try.prog 42 #[.pointer (some ⟨Bs, 0, none⟩)] (fun x : Fin l0.length => #[Value.int .i64 (x.1 : Int), Value.int .i64 (rd l0 (x.1 : Int))]) (KeptB n₀ Bs)
      (fun ys => ys.map (fun x => x.1) = (List.range l0.length).reverse) (fun _ => True) l0.length w := fun l J Jx W hW _ _ hY h0 => by
  have hc' := (hW.cell (p := ⟨Bs, 0, none⟩) hBs).trans hc
  refine (backward1 F n h8 hro hn l Bs n₀ A0 c0 l0 hreach J Jx hY W hlt hc' (Kd.C_below hI hW) h0).mono ?_
  rintro e W' ⟨he, ⟨ys, hy, hj⟩ | ⟨pre, hj⟩⟩
  · exact ⟨he, .inl ⟨_, hy, hj⟩⟩
  · exact ⟨he, .inr ⟨_, trivial, hj⟩⟩
/-! ### impl_greedy: function 25 -/
/-- What is taken of the kinds that have come, and what is left. -/
def grStep {n : Nat} (l0 : List Int) (s : List Int × Int) (x : Fin n) : List Int × Int := (s.1.set x.1 (wrap64 (Int.tdiv s.2 (rd l0 (x.1 : Int)))), Int.tmod s.2 (rd l0 (x.1 : Int)))
def grRun {n : Nat} (l0 : List Int) (a : Int) (pre : List (Fin n)) : List Int × Int := pre.foldl (grStep l0) (List.replicate l0.length 0, a)
/-- Greedy change by the list itself: the kinds behind the first one first. -/
def gr : List Int → Int → List Int × Int
  | [], a => ([], a)
  | c :: t, a => (wrap64 (Int.tdiv (gr t a).2 c) :: (gr t a).1, Int.tmod (gr t a).2 c)
def impl_greedy.f (l0 : List Int) (a1 : Int) : Option (List Int × Bool) := if l0.length ≤ 1000000 then (if (∀ x ∈ l0, x ≠ 0) then some ((gr l0 a1).1, decide ((gr l0 a1).2 = 0)) else none) else none
theorem grRun_length {n : Nat} (l0 : List Int) (a : Int) (pre : List (Fin n)) : (grRun l0 a pre).1.length = l0.length := by
  unfold grRun
  suffices ∀ s : List Int × Int, (pre.foldl (grStep l0) s).1.length = s.1.length by rw [this]; simp
  induction pre with
  | nil => intro s; rfl
  | cons x t ih => intro s; rw [List.foldl_cons, ih]; simp [grStep]
theorem gr_length (l : List Int) (a : Int) : (gr l a).1.length = l.length := by
  induction l with
  | nil => rfl
  | cons c t ih => simp [gr, ih]
theorem gr_run (l0 : List Int) (a : Int) (d : Nat) : ∀ (j : Nat) (pre : List (Fin l0.length)), l0.length - j = d → j ≤ l0.length → pre.map (fun x => x.1) = ((List.range l0.length).drop j).reverse →
    grRun l0 a pre = (List.replicate j 0 ++ (gr (l0.drop j) a).1, (gr (l0.drop j) a).2) := by
  induction d with
  | zero =>
    intro j pre hd hj hp
    have : j = l0.length := by omega
    subst this
    have : pre = [] := by rw [List.drop_of_length_le (by simp)] at hp; simpa using hp
    subst this
    simp [grRun, gr]
  | succ d ih =>
    intro j pre hd hj hp
    have hjl : j < l0.length := by omega
    rw [show (List.range l0.length).drop j = j :: (List.range l0.length).drop (j + 1) by rw [List.drop_eq_getElem_cons (by simpa using hjl)]; simp, List.reverse_cons] at hp
    obtain ⟨ini, last, rfl, h1, h2⟩ := List.map_eq_append_iff.1 hp
    obtain ⟨x, rfl, hx⟩ : ∃ x : Fin l0.length, last = [x] ∧ x.1 = j := by
      cases last with
      | nil => simp at h2
      | cons x t =>
        simp at h2
        exact ⟨x, by rw [h2.2], h2.1⟩
    have h := ih (j + 1) ini (by omega) (by omega) h1
    have e : rd l0 (x.1 : Int) = l0[j] := by rw [hx]; simp [rd, hjl]
    have hs : grRun l0 a (ini ++ [x]) = grStep l0 (grRun l0 a ini) x := by simp [grRun]
    have hg : gr (l0.drop j) a = (wrap64 (Int.tdiv (gr (l0.drop (j + 1)) a).2 l0[j]) :: (gr (l0.drop (j + 1)) a).1, Int.tmod (gr (l0.drop (j + 1)) a).2 l0[j]) := by
      rw [List.drop_eq_getElem_cons hjl]; rfl
    rw [hs, h, hg, grStep, e, hx]
    congr 1
    have e2 : (List.replicate (j + 1) (0 : Int) ++ (gr (l0.drop (j + 1)) a).1) = List.replicate j 0 ++ 0 :: (gr (l0.drop (j + 1)) a).1 := by rw [List.replicate_succ', List.append_assoc]; rfl
    rw [e2, List.set_append_right _ _ (by simp)]
    simp
/-- A round: what is taken of a kind, what is left. -/
theorem gr_round {l0 : List Int} {a1 : Int} {s : Nat} {w W : World} {pre : List (Fin l0.length)} {x : Fin l0.length} {B : Nat} {a' : Act} (hs : w.heap.size = s)
    (hb1 : Boxed W s 3 (.int .i64 (grRun l0 a1 pre).2)) (hb2 : W.ownsRow s 3 1 (.slice (some ⟨s + 1, 0, none⟩) l0.length l0.length) l0.length (nums .i64 (grRun l0 a1 pre).1))
    (hb3 : Boxed W (s + 1 + 1) 22 (.slice (some ⟨s + 1, 0, none⟩) l0.length l0.length)) (hb4 : Below s w W) :
    ownPostG B (KeptB s (s + 1 + 1 + 1)) (fun pre W => Boxed W s 3 (.int .i64 (grRun l0 a1 pre).2) ∧ W.ownsRow s 3 1 (.slice (some ⟨s + 1, 0, none⟩) l0.length l0.length) l0.length (nums .i64 (grRun l0 a1 pre).1) ∧ Boxed W (s + 1 + 1) 22 (.slice (some ⟨s + 1, 0, none⟩) l0.length l0.length) ∧ Below s w W)
      (fun _ _ _ => False) (pre ++ [x]) W .normal a' ((W.setCell ⟨s + 1, x.1, none⟩ (.int .i64 (wrap64 ((grRun l0 a1 pre).2.tdiv (rd l0 (x.1 : Int)))))).setCell ⟨s, 0, none⟩ (.int .i64 ((grRun l0 a1 pre).2.tmod (rd l0 (x.1 : Int))))).drew := by
  have e : grRun l0 a1 (pre ++ [x]) = grStep l0 (grRun l0 a1 pre) x := by simp [grRun]
  obtain ⟨hr1, hg1⟩ := own_store hb2 (x.1 : Int) (wrap64 ((grRun l0 a1 pre).2.tdiv (rd l0 (x.1 : Int))))
  rw [Int.toNat_natCast] at hr1 hg1
  have k1 := hb1.kept hg1 (by simp)
  have k3 := hb3.kept hg1 (by simp)
  have hg2 := grownBy_setCell' (W.setCell ⟨s + 1, x.1, none⟩ (.int .i64 (wrap64 ((grRun l0 a1 pre).2.tdiv (rd l0 (x.1 : Int)))))) s (.int .i64 ((grRun l0 a1 pre).2.tmod (rd l0 (x.1 : Int))))
  have hr2 := hr1.kept hg2 (.inr (by simp [Value.ownBlock]))
  have k1' := k1.set (.int .i64 ((grRun l0 a1 pre).2.tmod (rd l0 (x.1 : Int))))
  have k3' := k3.kept hg2 (by simp; omega)
  refine ⟨(((KeepsOthers.setCell _ _ _).trans (KeepsOthers.setCell _ _ _)).trans (KeepsOthers.drew _)).from _, ⟨?_, ?_⟩, ?_, ?_, k3', ?_⟩
  · exact below_drew (((Below.refl s W).setCell (p := ⟨s + 1, x.1, none⟩) (by simp) _).setCell (p := ⟨s, 0, none⟩) (by simp) _)
  · have h1 := Below.heap_setCell W ⟨s + 1, x.1, none⟩ (.int .i64 (wrap64 ((grRun l0 a1 pre).2.tdiv (rd l0 (x.1 : Int))))) (s + 1 + 1 + 1) (by simp; omega)
    have h2 := Below.heap_setCell (W.setCell ⟨s + 1, x.1, none⟩ (.int .i64 (wrap64 ((grRun l0 a1 pre).2.tdiv (rd l0 (x.1 : Int)))))) ⟨s, 0, none⟩ (.int .i64 ((grRun l0 a1 pre).2.tmod (rd l0 (x.1 : Int)))) (s + 1 + 1 + 1) (by simp; omega)
    exact h2.trans h1
  · rw [e]; exact k1'
  · rw [e]; exact hr2
  · exact below_drew ((hb4.setCell (p := ⟨s + 1, x.1, none⟩) (by simp) _).setCell (p := ⟨s, 0, none⟩) (by simp) _)
set_option maxRecDepth 100000 in
set_option maxHeartbeats 8000000 in
theorem impl_greedy.calls (A0 : Option Addr) (c0 : Nat) (l0 : List Int) (a1 : Int) (r1 : List Int) (r2 : Bool) (w : World) (hr0 : Kd.C (Kd.int .i64) w A0 l0.length l0) (hc0 : l0.length ≤ c0) (h : impl_greedy.f l0 a1 = some (r1, r2)) :
    Calls Try.prog 25 #[.slice A0 l0.length c0, .int .i64 a1] w fun e w' => ∃ v0_ : Value, e = .returned (.tuple #[v0_, .bool r2]) ∧ Kd.R (Kd.int .i64) 3 w' w.heap.size (fun _ => True) v0_ r1 ∧ Below w.heap.size w w' := by
  have hlen : l0.length ≤ 1000000 := by
    apply Classical.byContradiction; intro hn; simp [impl_greedy.f, hn] at h
  have hz : ∀ x ∈ l0, x ≠ 0 := by
    apply Classical.byContradiction; intro hn; simp only [impl_greedy.f, if_pos hlen, if_neg hn] at h; cases h
  have H1 := Aside0.mk h
  clear h
  have HC := Aside0.mk hr0
  have hbl : ∀ ad, A0 = some ad → 0 < l0.length → ad.block < w.heap.size := fun ad ha hp => by
    obtain ⟨ad', e', hc⟩ := Kd.at_int hr0 0 (by omega) (by omega)
    rw [ha] at e'; cases e'
    have := World.block_lt_of_cell? w _ hc
    rwa [add_block] at this
  clear hr0
  have hro : Fence.wide.round = none := rfl
  have h1 : (1 : Nat) ≤ 10 := by omega
  have hmk := print_make (P := Try.prog) 22 3 .i64 8 Try.underlying22 info3 (by decide) l0.length (by omega)
  refine callsIn_wide (n := 10).1 ?_
  refine callsIn_of_wp_marks Try.func25 rfl trivial ?_ hro
  simp only [Try.ntmps25, List.size_toArray, List.length_cons, List.length_nil, Nat.reduceAdd, Nat.reduceSub, Array.replicate_succ, Array.replicate_zero, List.push_toArray, List.append_toArray, List.nil_append, List.cons_append]
  gi_wp2_with (refine ⟨trivial, ?_⟩; gi_at_call 35; refine (backward_in Fence.wide 9 trivial hro _ _ _ _).mono ?_; rintro e w' ⟨rfl, rfl⟩)
  clear hmk
  have bA := ((Boxed.new w 3 (.int .i64 a1)).alloc (.cells (madeCells #[Value.int .i64 0] l0.length) 3)).alloc (.cells #[Value.slice (some ⟨w.heap.size + 1, 0, none⟩) l0.length l0.length] 22)
  have bR := (own_made (w.alloc (.cells #[Value.int .i64 a1] 3)) w.heap.size 3 .i64 l0.length (by simp) (by omega)).alloc (.cells #[Value.slice (some ⟨w.heap.size + 1, 0, none⟩) l0.length l0.length] 22)
  have bO := Boxed.new ((w.alloc (.cells #[Value.int .i64 a1] 3)).alloc (.cells (madeCells #[Value.int .i64 0] l0.length) 3)) 22 (Value.slice (some ⟨w.heap.size + 1, 0, none⟩) l0.length l0.length)
  have bI := Boxed.new (((w.alloc (.cells #[Value.int .i64 a1] 3)).alloc (.cells (madeCells #[Value.int .i64 0] l0.length) 3)).alloc (.cells #[Value.slice (some ⟨w.heap.size + 1, 0, none⟩) l0.length l0.length] 22)) 22 (Value.slice A0 l0.length c0)
  simp only [World.size_alloc] at bA bR bO bI
  have bA' := bA.alloc (.cells #[Value.slice A0 l0.length c0] 22)
  have bR' := bR.alloc (.cells #[Value.slice A0 l0.length c0] 22)
  have bO' := bO.alloc (.cells #[Value.slice A0 l0.length c0] 22)
  have hB0 : Below w.heap.size w ((((w.alloc (.cells #[Value.int .i64 a1] 3)).alloc (.cells (madeCells #[Value.int .i64 0] l0.length) 3)).alloc (.cells #[Value.slice (some ⟨w.heap.size + 1, 0, none⟩) l0.length l0.length] 22)).alloc (.cells #[Value.slice A0 l0.length c0] 22)) :=
    ((((Below.refl _ w).alloc (Nat.le_refl _) _).alloc (by simp) _).alloc (by simp; omega) _).alloc (by simp; omega) _
  have hC' := Kd.C_below HC.out hB0
  clear bA bR bO
  generalize hW0 : ((((w.alloc (.cells #[Value.int .i64 a1] 3)).alloc (.cells (madeCells #[Value.int .i64 0] l0.length) 3)).alloc (.cells #[Value.slice (some ⟨w.heap.size + 1, 0, none⟩) l0.length l0.length] 22)).alloc (.cells #[Value.slice A0 l0.length c0] 22)) = W0 at *
  have hsz : W0.heap.size = w.heap.size + 1 + 1 + 1 + 1 := by rw [← hW0]; simp
  clear hW0
  refine wpIn_rangeFunc_ownG hro h1 (gf := 42) (lb := #[.pointer (some ⟨w.heap.size + 1 + 1 + 1, 0, none⟩)]) rfl trivial (enters_of Try.func42 (by kernel_rfl) rfl)
    (backward_stops Fence.wide 9 trivial hro (by omega) (w.heap.size + 1 + 1 + 1) w.heap.size A0 c0 l0 (by omega) W0 (by omega) (by omega) hbl bI.cell hC') KeptB.trans (KeptB.put (by omega) (by omega)) (Below.refl _ _) (fun _ => rfl)
    (fun pre W => Boxed W w.heap.size 3 (.int .i64 (grRun l0 a1 pre).2) ∧ W.ownsRow w.heap.size 3 1 (.slice (some ⟨w.heap.size + 1, 0, none⟩) l0.length l0.length) l0.length (nums .i64 (grRun l0 a1 pre).1) ∧ Boxed W (w.heap.size + 1 + 1) 22 (.slice (some ⟨w.heap.size + 1, 0, none⟩) l0.length l0.length) ∧ Below w.heap.size w W)
    (fun _ _ _ => False)
    (OwnFrom.and ((boxed_own _ _ _).from _) (OwnFrom.and (fun s X Y row hr hg hrow => hr.kept hg (by
      rcases hr.2 with ⟨h', _⟩ | ⟨g, cap, cur, h', _, hgb, _⟩
      · exact .inl (by rw [h']; rfl)
      · refine .inr fun e' => ?_
        rw [h'] at e'
        obtain ⟨_, o, ho, hc⟩ := hrow g (by have e2 := e'.symm; simpa [Value.ownBlock] using e2)
        rw [hgb] at ho; cases ho; cases hc)) (OwnFrom.and ((boxed_own _ _ _).from _) (ownFrom_below (Nat.le_refl _) (by omega)))))
    (fun _ _ _ _ _ hs _ _ => hs)
    ⟨bA', bR', bO', hB0⟩
    (fun x => { tmps := #[.slice A0 l0.length c0, .int .i64 a1, undef, .pointer (some ⟨w.heap.size, 0, none⟩), .slice none 0 0, .bool false, .pointer (some ⟨w.heap.size + 1 + 1, 0, none⟩), .int .i64 (x.1 : Int), .int .i64 (rd l0 (x.1 : Int)),
      .slice A0 l0.length c0, .int .i64 (l0.length : Int), .slice (some ⟨w.heap.size + 1, 0, none⟩) l0.length l0.length, .slice A0 l0.length c0, .func (.func 42) #[] #[.pointer (some ⟨w.heap.size + 1 + 1 + 1, 0, none⟩)], .int .i64 (x.1 : Int), .int .i64 (rd l0 (x.1 : Int)),
      undef, undef, undef, undef, undef, undef, undef, undef, undef, undef, undef, undef], defers := [] }) ?assign ?body ?done ?stop
  case assign =>
    intro l x W K hK
    gi_wp2
    exact hK
  case body =>
    rintro l pre x W ⟨hb1, hb2, hb3, hb4⟩ _
    have hx := x.2
    have hne : (rd l0 (x.1 : Int) == 0) = false := by
      have := hz _ (List.getElem_mem hx)
      rw [beq_eq_false_iff_ne]
      simpa [rd, hx] using this
    have hne2 : ¬ rd l0 (x.1 : Int) = 0 := by simpa using hne
    have hne3 : (rd l0 (x.1 : Int) != 0) = true := by simpa using hne2
    have hmx : Try.prog.follows .mixedOrders = true := by kernel_rfl
    have c1 := hb1.cell
    have f1 := hb1.frozen
    have c3 := hb3.cell
    obtain ⟨c2, f2⟩ := own_at hb2 (x.1 : Int) (by omega) (by omega)
    rw [Int.toNat_natCast] at c2 f2
    have hxi : (x.1 : Int) < (l0.length : Int) := by omega
    gi_wp2
    gi_region_with_o (fail)
    all_goals gi_wp2
    all_goals exact gr_round rfl hb1 hb2 hb3 hb4
  case done =>
    rintro D ys W hD hys ⟨hb1, hb2, hb3, hb4⟩ hK
    have hmx : Try.prog.follows .mixedOrders = true := by kernel_rfl
    have c1 := hb1.cell
    have c3 := hb3.cell
    gi_wp2
    gi_region_o
    all_goals gi_wp2
    have hrun := gr_run l0 a1 l0.length 0 ys (by omega) (by omega) (by simpa using hys)
    simp only [List.replicate_zero, List.nil_append, List.drop_zero] at hrun
    have H2 := H1.out
    unfold impl_greedy.f at H2
    rw [if_pos hlen, if_pos hz] at H2
    simp only [Option.some.injEq, Prod.mk.injEq] at H2
    obtain ⟨rfl, rfl⟩ := H2
    have hK' : W.drew.heap[D]? = some (Obj.deferred (some [])) := hK
    have hr3 := ownsRow_putObj hb2.drew (.deferred none) hK' rfl
    rw [hrun] at hr3
    have hl2 : l0.length = (gr l0 a1).1.length := (gr_length l0 a1).symm
    have eb : ((grRun l0 a1 ys).2 == 0) = decide ((gr l0 a1).2 = 0) := by rw [hrun]; exact Bool.beq_eq_decide_eq _ _
    refine ⟨by simp, .inl ⟨_, _, rfl, run_takeDeferred hK', ?_⟩⟩
    refine ⟨_, results_tmp2 rfl _ _ _, _, ?_, R_of_nums (v := .slice (some ⟨w.heap.size + 1, 0, none⟩) l0.length l0.length) (by rw [← hl2]; exact hr3), (below_drew hb4).trans (belowK_b (w := w) (Nat.le_refl _) _ D _ _ (by omega) hK' rfl rfl)⟩
    show Ending.returned (.tuple #[.slice (some ⟨w.heap.size + 1, 0, none⟩) l0.length l0.length, .bool ((grRun l0 a1 ys).2 == 0)]) = _
    rw [eb]
  case stop =>
    rintro D c pre W _ _ h _
    exact h.elim

/-! ### impl_GreedyChange: function 10 -/
def impl_GreedyChange.f (k : Nat) (l0 : List Int) (a1 : Int) : Option (List Int × Bool) := (impl_isAmount.f k l0 a1).bind fun t131 => (if t131 = true then ((impl_greedy.f l0 a1).bind fun bt132 => (if bt132.2 = true then (some (bt132.1, true)) else (some (([] : List Int), false)))) else (some (([] : List Int), false)))
theorem impl_GreedyChange.mono : ∀ a0 a1 k, LeO (impl_GreedyChange.f k a0 a1) (impl_GreedyChange.f (k + 1) a0 a1) := by
  intro a0 a1 k
  unfold impl_GreedyChange.f
  repeat' first
      | (with_reducible exact impl_isAmount.mono _ _ _)
      | (with_reducible exact LeO.refl _)
      | (with_reducible exact LeO.none _)
      | (with_reducible refine LeO.ite ?_ ?_)
      | (with_reducible refine LeO.bind ?_ (fun _ => ?_))
      | exact impl_isAmount.mono _ _ _
      | exact LeO.none _
      | refine LeO.ite ?_ ?_
      | refine LeO.bind ?_ (fun _ => ?_)
set_option maxHeartbeats 8000000 in
set_option maxRecDepth 100000 in
theorem impl_GreedyChange.calls (k : Nat) (A0 : Option Addr) (c0 : Nat) (l0 : List Int) (a1 : Int) (r1 : List Int) (r2 : Bool) (w : World) (hr0 : Kd.C (Kd.int .i64) w A0 l0.length l0) (hc0 : l0.length ≤ c0) (h : impl_GreedyChange.f k l0 a1 = some (r1, r2)) :
    Calls Try.prog 10 #[.slice A0 l0.length c0, .int .i64 a1] w fun e w' => ∃ v0_ : Value, e = .returned (.tuple #[v0_, .bool r2]) ∧ Kd.R (Kd.int .i64) 3 w' w.heap.size (fun _ => True) v0_ r1 ∧ Below w.heap.size w w' := by
  have HR0 := Aside0.mk hr0
  have HC0 := Aside0.mk hc0
  clear hr0 hc0
  have HB := Aside0.mk (Below.refl w.heap.size w)
  have H : ((impl_isAmount.f k l0 a1).bind fun t131 => (if t131 = true then ((impl_greedy.f l0 a1).bind fun bt132 => (if bt132.2 = true then (some (bt132.1, true)) else (some (([] : List Int), false)))) else (some (([] : List Int), false)))) = some (r1, r2) := h
  clear h
  replace H := Option.bind_eq_some_iff.mp H
  obtain ⟨t131, A30, H⟩ := H
  replace H : (if t131 = true then ((impl_greedy.f l0 a1).bind fun bt132 => (if bt132.2 = true then (some (bt132.1, true)) else (some (([] : List Int), false)))) else (some (([] : List Int), false))) = some (r1, r2) := H
  have A3 := Aside0.mk A30
  clear A30
  by_cases c4 : t131 = true
  · subst c4
    have H1 : ((impl_greedy.f l0 a1).bind fun bt132 => (if bt132.2 = true then (some (bt132.1, true)) else (some (([] : List Int), false)))) = some (r1, r2) := by rw [if_pos rfl] at H; exact H
    clear H
    have H := H1
    clear H1
    replace H := Option.bind_eq_some_iff.mp H
    obtain ⟨⟨t132, t133⟩, A50, H⟩ := H
    replace H : (if t133 = true then (some (t132, true)) else (some (([] : List Int), false))) = some (r1, r2) := H
    have A5 := Aside0.mk A50
    clear A50
    by_cases c6 : t133 = true
    · subst c6
      have H1 : (some (t132, true)) = some (r1, r2) := by rw [if_pos rfl] at H; exact H
      clear H
      have H := H1
      clear H1
      simp only [Option.some.injEq, Prod.mk.injEq] at H
      obtain ⟨rfl, rfl⟩ := H
      go_enter Try.func10, Try.ntmps10
      go_wp2_with (first | ((with_reducible refine gate_callee (f := 24) rfl ?_); refine goesL_ (some 10) rfl rfl Try.func24 (by kernel_rfl) rfl #[.slice A0 l0.length c0, .int .i64 a1] rfl (by (try simp only [List.map_toArray, List.map_cons, List.map_nil]); first | done | rfl | (simp only [List.length_drop, List.length_take]; rfl)) ?_; (with_reducible refine (impl_isAmount.calls k _ _ l0 a1 true _ ?side1 ?side2 A3.out).mono ?_); (case side1 => repeat (first | exact HR0.out | (with_reducible refine Kd.C_alloc ?_ _) | (with_reducible refine Kd.C_drewN ?_ _) | (with_reducible refine Kd.C_drew ?_))); (case side2 => exact HC0.out); rintro e w7 ⟨rfl, hb⟩; refine ⟨_, rfl, ?_⟩; have n0_ := Aside0.mk (below_step (by repeat (first | (with_reducible first | exact HB.out | apply below_alloc | apply pw_below_drewN | apply below_drew1) | exact HB.out)) hb); clear HB; have HB := n0_; clear n0_; (try clear hb); (try clear hb2); (try clear hk); (try clear hi)) | ((with_reducible refine gate_callee (f := 25) rfl ?_); refine goesL_ (some 15) rfl rfl Try.func25 (by kernel_rfl) rfl #[.slice A0 l0.length c0, .int .i64 a1] rfl (by (try simp only [List.map_toArray, List.map_cons, List.map_nil]); first | done | rfl | (simp only [List.length_drop, List.length_take]; rfl)) ?_; (with_reducible refine (impl_greedy.calls _ _ l0 a1 t132 true _ ?side1 ?side2 A5.out).mono ?_); (case side1 => repeat (first | exact (Kd.C_below HR0.out HB.out) | (with_reducible refine Kd.C_alloc ?_ _) | (with_reducible refine Kd.C_drewN ?_ _) | (with_reducible refine Kd.C_drew ?_))); (case side2 => exact HC0.out); rintro e w8 ⟨v134, rfl, ho0, hb⟩; refine ⟨_, rfl, ?_⟩; have n0_ := Aside0.mk (Kd.R_lower ho0 (below_size (by repeat (first | (with_reducible first | exact HB.out | apply below_alloc | apply pw_below_drewN | apply below_drew1) | exact HB.out)))); have n1_ := Aside0.mk (below_step (by repeat (first | (with_reducible first | exact HB.out | apply below_alloc | apply pw_below_drewN | apply below_drew1) | exact HB.out)) hb); clear HB; have HO135 := n0_; have HB := n1_; clear n0_ n1_; (try clear hb); (try clear hb2); (try clear hk); (try clear hi); (try clear ho0)))
      go_ret2
      exact ⟨_, by first | rfl | (simp [errW_none, errW_some] <;> rfl) | (simp [*, errW_none, errW_some] <;> rfl), by (with_reducible repeat (first | apply Kd.R_alloc | apply Kd.R_drewN | apply Kd.R_drew)); exact HO135.out, by repeat (first | (with_reducible first | exact HB.out | apply below_alloc | apply pw_below_drewN | apply below_drew1) | exact HB.out)⟩
    · replace c6 := Bool.eq_false_iff.mpr c6
      subst c6
      have H1 : (some (([] : List Int), false)) = some (r1, r2) := by rw [if_neg (show ¬ (false = true) by decide)] at H; exact H
      clear H
      have H := H1
      clear H1
      simp only [Option.some.injEq, Prod.mk.injEq] at H
      obtain ⟨rfl, rfl⟩ := H
      go_enter Try.func10, Try.ntmps10
      go_wp2_with (first | ((with_reducible refine gate_callee (f := 24) rfl ?_); refine goesL_ (some 10) rfl rfl Try.func24 (by kernel_rfl) rfl #[.slice A0 l0.length c0, .int .i64 a1] rfl (by (try simp only [List.map_toArray, List.map_cons, List.map_nil]); first | done | rfl | (simp only [List.length_drop, List.length_take]; rfl)) ?_; (with_reducible refine (impl_isAmount.calls k _ _ l0 a1 true _ ?side1 ?side2 A3.out).mono ?_); (case side1 => repeat (first | exact HR0.out | (with_reducible refine Kd.C_alloc ?_ _) | (with_reducible refine Kd.C_drewN ?_ _) | (with_reducible refine Kd.C_drew ?_))); (case side2 => exact HC0.out); rintro e w9 ⟨rfl, hb⟩; refine ⟨_, rfl, ?_⟩; have n0_ := Aside0.mk (below_step (by repeat (first | (with_reducible first | exact HB.out | apply below_alloc | apply pw_below_drewN | apply below_drew1) | exact HB.out)) hb); clear HB; have HB := n0_; clear n0_; (try clear hb); (try clear hb2); (try clear hk); (try clear hi)) | ((with_reducible refine gate_callee (f := 25) rfl ?_); refine goesL_ (some 15) rfl rfl Try.func25 (by kernel_rfl) rfl #[.slice A0 l0.length c0, .int .i64 a1] rfl (by (try simp only [List.map_toArray, List.map_cons, List.map_nil]); first | done | rfl | (simp only [List.length_drop, List.length_take]; rfl)) ?_; (with_reducible refine (impl_greedy.calls _ _ l0 a1 t132 false _ ?side1 ?side2 A5.out).mono ?_); (case side1 => repeat (first | exact (Kd.C_below HR0.out HB.out) | (with_reducible refine Kd.C_alloc ?_ _) | (with_reducible refine Kd.C_drewN ?_ _) | (with_reducible refine Kd.C_drew ?_))); (case side2 => exact HC0.out); rintro e w10 ⟨v134, rfl, ho0, hb⟩; refine ⟨_, rfl, ?_⟩; have n0_ := Aside0.mk (Kd.R_lower ho0 (below_size (by repeat (first | (with_reducible first | exact HB.out | apply below_alloc | apply pw_below_drewN | apply below_drew1) | exact HB.out)))); have n1_ := Aside0.mk (below_step (by repeat (first | (with_reducible first | exact HB.out | apply below_alloc | apply pw_below_drewN | apply below_drew1) | exact HB.out)) hb); clear HB; have HO135 := n0_; have HB := n1_; clear n0_ n1_; (try clear hb); (try clear hb2); (try clear hk); (try clear hi); (try clear ho0)))
      go_ret2
      exact ⟨_, by first | rfl | (simp [errW_none, errW_some] <;> rfl) | (simp [*, errW_none, errW_some] <;> rfl), by first | exact Kd.R_nil _ _ _ _ _ | exact Kd.N_nil _ _ _ _ _ | exact Kd.V_nil _ _ _ _ _ | exact Kd.Q_nil _ _ _ _ _ | exact Kd.S_nil _ _ _ _ _, by repeat (first | (with_reducible first | exact HB.out | apply below_alloc | apply pw_below_drewN | apply below_drew1) | exact HB.out)⟩
  · replace c4 := Bool.eq_false_iff.mpr c4
    subst c4
    have H1 : (some (([] : List Int), false)) = some (r1, r2) := by rw [if_neg (show ¬ (false = true) by decide)] at H; exact H
    clear H
    have H := H1
    clear H1
    simp only [Option.some.injEq, Prod.mk.injEq] at H
    obtain ⟨rfl, rfl⟩ := H
    go_enter Try.func10, Try.ntmps10
    go_wp2_with (first | ((with_reducible refine gate_callee (f := 24) rfl ?_); refine goesL_ (some 10) rfl rfl Try.func24 (by kernel_rfl) rfl #[.slice A0 l0.length c0, .int .i64 a1] rfl (by (try simp only [List.map_toArray, List.map_cons, List.map_nil]); first | done | rfl | (simp only [List.length_drop, List.length_take]; rfl)) ?_; (with_reducible refine (impl_isAmount.calls k _ _ l0 a1 false _ ?side1 ?side2 A3.out).mono ?_); (case side1 => repeat (first | exact HR0.out | (with_reducible refine Kd.C_alloc ?_ _) | (with_reducible refine Kd.C_drewN ?_ _) | (with_reducible refine Kd.C_drew ?_))); (case side2 => exact HC0.out); rintro e w11 ⟨rfl, hb⟩; refine ⟨_, rfl, ?_⟩; have n0_ := Aside0.mk (below_step (by repeat (first | (with_reducible first | exact HB.out | apply below_alloc | apply pw_below_drewN | apply below_drew1) | exact HB.out)) hb); clear HB; have HB := n0_; clear n0_; (try clear hb); (try clear hb2); (try clear hk); (try clear hi)))
    go_ret2
    exact ⟨_, by first | rfl | (simp [errW_none, errW_some] <;> rfl) | (simp [*, errW_none, errW_some] <;> rfl), by first | exact Kd.R_nil _ _ _ _ _ | exact Kd.N_nil _ _ _ _ _ | exact Kd.V_nil _ _ _ _ _ | exact Kd.Q_nil _ _ _ _ _ | exact Kd.S_nil _ _ _ _ _, by repeat (first | (with_reducible first | exact HB.out | apply below_alloc | apply pw_below_drewN | apply below_drew1) | exact HB.out)⟩

end Go.Proofs.Ytbaodkllldhbmaa.G
