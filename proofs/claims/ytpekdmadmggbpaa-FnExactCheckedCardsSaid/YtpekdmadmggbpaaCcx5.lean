/- Functions of the program and of the reference as Lean functions, and the contracts of their calls: laid by a program of this repo (wip/gen.py), in part by hand. -/
import Derived.Test.YtpekdmadmggbpaaCcx0
namespace Go.Proofs.Ytpekdmadmggbpaa.Cc
open Go.RowKit Go.Proofs.YtpekdmadmggbpaaW.PrintWords Go.Proofs.YtpekdmadmggbpaaW.PrintLast Go.Proofs.YtpekdmadmggbpaaW.PrintMore
attribute [local go_sem] max2_int min2_int max_two min_two max_three min_three max_four min_four   -- for this text's walks alone
set_option linter.unusedVariables false
set_option linter.unusedSimpArgs false

/-! ### impl_within: function 32 -/
def impl_within.f (a0 : Int) (a1 : Int) (a2 : Int) : Option (Bool) := if a1 ≤ a0 then (some (decide (a0 ≤ a2))) else (some false)
set_option maxHeartbeats 8000000 in
set_option maxRecDepth 100000 in
theorem impl_within.calls (a0 : Int) (a1 : Int) (a2 : Int) (r : Bool) (w : World) (h : impl_within.f a0 a1 a2 = some r) :
    Calls Try.prog 32 #[.int .i64 a0, .int .i64 a1, .int .i64 a2] w fun e w' => e = .returned (.bool r) ∧ Drawn0 w w' := by
  have H : (if a1 ≤ a0 then (some (decide (a0 ≤ a2))) else (some false)) = some r := h
  clear h
  by_cases c4 : a1 ≤ a0
  · rw [if_pos c4] at H
    have c4b0 : decide (a1 ≤ a0) = true := decide_eq_true c4
    clear c4
    obtain rfl := Option.some.inj H
    go_enter Try.func32, Try.ntmps32
    go_wp2
    go_ret
    exact ⟨by first | rfl | (simp; done) | (simp [*]; done), by repeat (first | exact Drawn0.refl _ | apply Drawn0.step)⟩
  · rw [if_neg c4] at H
    have c4b0 : decide (a1 ≤ a0) = false := decide_eq_false c4
    clear c4
    obtain rfl := Option.some.inj H
    go_enter Try.func32, Try.ntmps32
    go_wp2
    go_ret
    exact ⟨by first | rfl | (simp; done) | (simp [*]; done), by repeat (first | exact Drawn0.refl _ | apply Drawn0.step)⟩

-- NOT PRINTED: function 70 (bits_Len32)

-- NOT PRINTED: function 71 (bits_Len64)

-- NOT PRINTED: function 61 (bits_Len)

/-! ### impl_fewestCards: function 40 -/
def impl_fewestCards.f (a0 : Int) : Option (Int) := if 1 ≤ a0 ∧ a0 ≤ 1000000 then some ((Go.Lib.bitLen (a0 - 1).toNat : Nat) : Int) else none
set_option maxRecDepth 100000 in
theorem impl_fewestCards.calls (a0 : Int) (r : Int) (w : World) (h : impl_fewestCards.f a0 = some r) :
    Calls Try.prog 40 #[.int .i64 a0] w fun e w' => e = .returned (.int .i64 r) ∧ Drawn0 w w' := by
  have ha : 1 ≤ a0 ∧ a0 ≤ 1000000 := by
    apply Classical.byContradiction; intro hn; unfold impl_fewestCards.f at h; rw [if_neg hn] at h; cases h
  unfold impl_fewestCards.f at h
  rw [if_pos ha] at h
  obtain rfl := Option.some.inj h
  rw [show (a0 - 1).toNat = a0.toNat - 1 by omega]
  have h1 : wrap64 (a0 - 1) = a0 - 1 := by unfold wrap64; omega
  have h2 : IntKind.u64.wrap (a0 - 1) = a0 - 1 := by simp [IntKind.wrap, IntKind.bits, IntKind.signed]; omega
  have HL := Aside0.mk (fun w => Try.bits_Len (a0 - 1) w (by omega) (by omega))
  clear h ha
  go_enter Try.func40, Try.ntmps40
  go_wp2_with (go_at_call 61; (try rw [h1, h2]); (try rw [h2]); refine (HL.out _).mono ?_; rintro e w1 ⟨rfl, rfl⟩)
  go_ret
  exact ⟨rfl, Drawn0.refl _⟩

-- NOT PRINTED: function 41 (impl_cardOf)

/-! ### impl_cardOf: function 41 -/
/-- The card of the numbers below n for which p holds. -/
def impl_cardOf.card (p : Int → Bool) (n : Nat) : List Int := ((List.range n).map fun (i : Nat) => (i : Int)).filter p
theorem impl_cardOf.card_step (p : Int → Bool) (n : Nat) : impl_cardOf.card p (n + 1) = if p n = true then impl_cardOf.card p n ++ [(n : Int)] else impl_cardOf.card p n := by
  unfold impl_cardOf.card
  rw [List.range_succ, List.map_append, List.filter_append]
  cases h : p n <;> simp [h]
theorem impl_cardOf.card_le (p : Int → Bool) (n : Nat) : (impl_cardOf.card p n).length ≤ n := by
  unfold impl_cardOf.card
  exact Nat.le_trans (List.length_filter_le _ _) (by simp)
/-- A condition on numbers below n, handed on: in every later world it answers p. -/
def impl_cardOf.Tells (g : Nat) (lb : Array Value) (n : Int) (p : Int → Bool) (w : World) : Prop :=
  ∀ (W : World) (x : Int), Below w.heap.size w W → 0 ≤ x → x < n → Calls Try.prog g (#[.int .i64 x] ++ lb) W fun e w' => e = .returned (.bool (p x)) ∧ Below W.heap.size W w'
set_option maxHeartbeats 8000000 in
set_option maxRecDepth 100000 in
theorem impl_cardOf.calls (g : Nat) (lb : Array Value) (eg : ∀ args w, (callFunc g args).run Try.prog w = .ok (.enter g args) w) (p : Int → Bool) (n : Int) (hn : 0 ≤ n ∧ n ≤ 1000000) (w : World) (hp : impl_cardOf.Tells g lb n p w) :
    Calls Try.prog 41 #[.int .i64 n, .func (.func g) #[] lb] w fun e w' => ∃ v0_ : Value, e = .returned v0_ ∧ Kd.R (Kd.int .i64) 3 w' w.heap.size (fun _ => True) v0_ (impl_cardOf.card p n.toNat) ∧ Below w.heap.size w w' := by
  have HP := Aside0.mk hp
  clear hp
  have HN := Aside0.mk hn
  clear hn
  have HB := Aside0.mk (Below.refl w.heap.size w)
  obtain ⟨y0, hy0⟩ : ∃ y_ : List Int, y_ = (([] : List Int)) := ⟨_, rfl⟩
  have Ny0 := Aside0.mk hy0
  clear hy0
  go_enter Try.func41, Try.ntmps41
  go_wp2_with ((with_reducible refine gate_dst (N := 7) rfl ?_); refine Kd.R_lit (Kd.int .i64) _ 3 ?hg (N := 7) ?hd (xs := ([] : List Int)) (inner := []) (ok := fun _ => True) (okp := fun _ => True) ?hr ?hp (fun _ hk => hk) trivial (Below.refl _ _) (Nat.le_refl _) (by simp) ?_; (case hd => rfl); (case hg => rfl); (case hr => first | (go_simp; done) | (go_simp; rfl)); (case hp => exact (Reps.none _ _)); intro v443 w3 ho4 hb hg_ hnew_; clear hg_ hnew_; (first | rw [← Ny0.out] at ho4 | (simp only [Int.reduceToNat] at ho4; rw [← Ny0.out] at ho4)); have n0_ := Aside0.mk (Kd.R_lower ho4 (below_size (by repeat (first | (with_reducible first | exact HB.out | apply below_alloc | apply pw_below_drewN | apply below_drew1) | exact HB.out)))); have n1_ := Aside0.mk (below_step (by repeat (first | (with_reducible first | exact HB.out | apply below_alloc | apply pw_below_drewN | apply below_drew1) | exact HB.out)) hb); clear HB; have HO444 := n0_; have HB := n1_; clear n0_ n1_; clear hb ho4)
  go_loopg [5, 6, 9] n.toNat (fun gg v5 _ v9 wr => ∃ kk : Nat, kk ≤ n.toNat ∧ n.toNat - kk ≤ gg ∧ v9 = .int .i64 kk ∧ Aside0 (Kd.R (Kd.int .i64) 3 wr w.heap.size (fun _ => True) v5 (impl_cardOf.card p kk)) ∧ Aside0 (Below w.heap.size w wr))
  case atStart => exact ⟨0, Nat.zero_le _, by omega, rfl, ⟨by rw [show impl_cardOf.card p 0 = y0 by rw [Ny0.out]; rfl]; exact HO444.out⟩, ⟨HB.out⟩⟩
  case round =>
    clear HO444 HB
    obtain ⟨kk, hkk, hg, rfl, HO, HB⟩ := hrel
    by_cases hlt : (kk : Int) < n
    · have hkn : kk < n.toNat := by omega
      have hw : wrap64 ((kk : Int) + 1) = ((kk + 1 : Nat) : Int) := by have := HN.out; unfold wrap64; omega
      have hE := impl_cardOf.card_step p kk
      have hL := impl_cardOf.card_le p kk
      cases hq : p (kk : Int) with
      | true =>
        rw [if_pos hq] at hE
        have hC : ∀ W : World, Below w.heap.size w W → Calls Try.prog g (#[.int .i64 (kk : Int)] ++ lb) W fun e w' => e = .returned (.bool true) ∧ Below W.heap.size W w' := fun W hb => by
          have := HP.out W kk hb (by omega) hlt
          rw [hq] at this
          exact this
        have HC := Aside0.mk hC
        clear hC hq
        obtain ⟨x5, hx5⟩ : ∃ y_ : List Int, y_ = impl_cardOf.card p kk := ⟨_, rfl⟩
        rw [← hx5] at HO hE hL
        clear hx5
        obtain ⟨y6, hy6⟩ : ∃ y_ : List Int, y_ = x5 ++ [(kk : Int)] := ⟨_, rfl⟩
        have Ny6 := Aside0.mk hy6
        have NE := Aside0.mk (hE.trans hy6.symm)
        clear hy6 hE
        have HL := Aside0.mk hL
        clear hL
        go_wp2_with (first | (go_at_fn g; refine (HC.out _ (by repeat (first | (with_reducible first | exact HB.out | apply below_alloc | apply pw_below_drewN | apply below_drew1) | exact HB.out))).mono ?_; rintro e w1 ⟨rfl, hb⟩; have n0_ := Aside0.mk (Kd.R_below (by (with_reducible repeat (first | apply Kd.R_alloc | apply Kd.R_drewN | apply Kd.R_drew)); exact HO.out) hb); have n1_ := Aside0.mk (below_step (by repeat (first | (with_reducible first | exact HB.out | apply below_alloc | apply pw_below_drewN | apply below_drew1) | exact HB.out)) hb); clear HO HB hb; have HO := n0_; have HB := n1_; clear n0_ n1_) | ((with_reducible refine gate_builtin (b := .append) (xs := #[.tmp 15, .tmp 17]) rfl ?_); at_builtin; refine Kd.R_append (Kd.int .i64) (w0 := w) w.heap.size rfl (.tmp 15) (.tmp 17) 46 3 (.int .i64 0) 8 rfl Try.underlying46 info3 rfl (by decide) (by omega) u5 x5 (kk : Int) [.int .i64 (kk : Int)] (fun _ => True) (fun _ => False) rfl rfl ?aP (fun _ hk => hk.elim) ?aF ?aO ?aB ?aS ?aL ?_; (case aP => exact rfl); (case aB => exact (by repeat (first | (with_reducible first | exact HB.out | apply below_alloc | apply pw_below_drewN | apply below_drew1) | exact HB.out))); (case aF => exact (fun _ _ => trivial)); (case aO => exact (by (with_reducible repeat (first | apply Kd.R_alloc | apply Kd.R_drewN | apply Kd.R_drew)); exact HO.out)); (case aS => exact (below_size (by repeat (first | (with_reducible first | exact HB.out | apply below_alloc | apply pw_below_drewN | apply below_drew1) | exact HB.out)))); (case aL => have := HL.out; have := HN.out; omega); intro v237 w13 ho hb hg1 hat; rw [← Ny6.out] at ho; have n0_ := Aside0.mk (hb); have n1_ := Aside0.mk (ho); clear HB HO; have HB := n0_; have HO := n1_; clear n0_ n1_; clear ho hb hg1 hat))
        go_roundg (n.toNat - (kk + 1))
        case measure => omega
        case rel => exact ⟨kk + 1, by omega, by omega, by first | rfl | rw [hw] | go_num, ⟨by rw [NE.out]; (with_reducible repeat (first | apply Kd.R_alloc | apply Kd.R_drewN | apply Kd.R_drew)); exact HO.out⟩, ⟨by repeat (first | (with_reducible first | exact HB.out | apply below_alloc | apply pw_below_drewN | apply below_drew1) | exact HB.out)⟩⟩
      | false =>
        rw [if_neg (by rw [hq]; simp)] at hE
        have hC : ∀ W : World, Below w.heap.size w W → Calls Try.prog g (#[.int .i64 (kk : Int)] ++ lb) W fun e w' => e = .returned (.bool false) ∧ Below W.heap.size W w' := fun W hb => by
          have := HP.out W kk hb (by omega) hlt
          rw [hq] at this
          exact this
        have HC := Aside0.mk hC
        clear hC hq
        have NE := Aside0.mk hE
        clear hE
        go_wp2_with (go_at_fn g; refine (HC.out _ (by repeat (first | (with_reducible first | exact HB.out | apply below_alloc | apply pw_below_drewN | apply below_drew1) | exact HB.out))).mono ?_; rintro e w1 ⟨rfl, hb⟩; have n0_ := Aside0.mk (Kd.R_below (by (with_reducible repeat (first | apply Kd.R_alloc | apply Kd.R_drewN | apply Kd.R_drew)); exact HO.out) hb); have n1_ := Aside0.mk (below_step (by repeat (first | (with_reducible first | exact HB.out | apply below_alloc | apply pw_below_drewN | apply below_drew1) | exact HB.out)) hb); clear HO HB hb; have HO := n0_; have HB := n1_; clear n0_ n1_)
        go_roundg (n.toNat - (kk + 1))
        case measure => omega
        case rel => exact ⟨kk + 1, by omega, by omega, by first | rfl | rw [hw] | go_num, ⟨by rw [NE.out]; (with_reducible repeat (first | apply Kd.R_alloc | apply Kd.R_drewN | apply Kd.R_drew)); exact HO.out⟩, ⟨by repeat (first | (with_reducible first | exact HB.out | apply below_alloc | apply pw_below_drewN | apply below_drew1) | exact HB.out)⟩⟩
    · have : kk = n.toNat := by have := HN.out; omega
      subst this
      go_wp2
      go_ret
      exact ⟨_, rfl, by (with_reducible repeat (first | apply Kd.R_alloc | apply Kd.R_drewN | apply Kd.R_drew)); exact HO.out, by repeat (first | (with_reducible first | exact HB.out | apply below_alloc | apply pw_below_drewN | apply below_drew1) | exact HB.out)⟩
/-! ### impl_BinaryCards: function 16 -/
/-- The numbers below n whose k-th digit is 1. -/
def impl_BinaryCards.digit (k : Nat) (x : Int) : Bool := (Go.bits .and .i64 (x / 2 ^ k) 1 == 1)
def impl_BinaryCards.row (n : Int) (k : Nat) : List Int := impl_cardOf.card (impl_BinaryCards.digit k) n.toNat
def impl_BinaryCards.rows (n : Int) (m : Nat) : List (List Int) := (List.range m).map (impl_BinaryCards.row n)
theorem impl_BinaryCards.rows_succ (n : Int) (m : Nat) : impl_BinaryCards.rows n (m + 1) = impl_BinaryCards.rows n m ++ [impl_BinaryCards.row n m] := by
  unfold impl_BinaryCards.rows
  rw [List.range_succ, List.map_append]; rfl
def impl_BinaryCards.f (k : Nat) (a0 : Int) : Option (Int × List (List Int) × Bool) := (impl_within.f a0 1 128).bind fun t => if t = true then (if 1 ≤ a0 ∧ a0 ≤ 128 then ((impl_fewestCards.f a0).bind fun m => if 0 ≤ m ∧ m ≤ 60 then some (a0, impl_BinaryCards.rows a0 m.toNat, true) else none) else none) else some (0, [], false)
theorem impl_BinaryCards.mono : ∀ a0 k, LeO (impl_BinaryCards.f k a0) (impl_BinaryCards.f (k + 1) a0) := by
  intro a0 k
  unfold impl_BinaryCards.f
  exact LeO.bind (LeO.refl _) (fun _ => LeO.ite (LeO.ite (LeO.bind (LeO.refl _) (fun _ => LeO.refl _)) (LeO.refl _)) (LeO.refl _))
theorem impl_BinaryCards.infoS : (Try.prog.info? 46).map (fun i => (i.zero, i.size, i.bytes)) = some (some (.slice none 0 0), 1, 24) := by kernel_rfl
set_option maxRecDepth 100000 in
set_option maxHeartbeats 8000000 in
/-- The condition, handed on as a closure. -/
theorem impl_BinaryCards.tells (n : Int) (hn : n ≤ 1000) (i : Nat) (hi : i ≤ 60) (bk : Nat) (w : World) (hc : w.heap[bk]? = some (.cells #[.int .i64 (i : Int)] 3 (0, 0))) : impl_cardOf.Tells 42 #[.pointer (some ⟨bk, 0, none⟩)] n (impl_BinaryCards.digit i) w := by
  intro W x hb hx0 hx1
  have hcz := (blk_cell (blk_below hc hb) 0).trans rfl
  obtain ⟨r, hr⟩ : ∃ r, impl_BinaryCards.digit i x = r := ⟨_, rfl⟩
  have HR := Aside0.mk hr
  unfold impl_BinaryCards.digit at hr
  rw [HR.out]
  have hi0 : (0 : Int) ≤ (i : Int) := by omega
  have hi6 : (i : Int) ≤ 60 := by omega
  clear hc HR
  go_enter Try.func42, Try.ntmps42
  go_wp2
  go_ret
  exact ⟨rfl, Below.refl _ _⟩
set_option maxRecDepth 100000 in
set_option maxHeartbeats 8000000 in
theorem impl_BinaryCards.calls (k : Nat) (a0 : Int) (r1 : Int) (r2 : List (List Int)) (r3 : Bool) (w : World) (h : impl_BinaryCards.f k a0 = some (r1, r2, r3)) :
    Calls Try.prog 16 #[.int .i64 a0] w fun e w' => ∃ v1_ : Value, e = .returned (.tuple #[.agg #[.int .i64 r1, v1_], .bool r3]) ∧ Kd.S (Kd.slice 3 (Kd.int .i64)) 46 w' w.heap.size (fun _ => True) v1_ r2 ∧ Below w.heap.size w w' := by
  have hu27 := Try.underlying27
  obtain ⟨t, h1, h2⟩ := Option.bind_eq_some_iff.1 h
  clear h
  have HW := Aside0.mk (fun W => impl_within.calls a0 1 128 t W h1)
  clear h1
  cases t with
  | false =>
    obtain ⟨rfl, rfl, rfl⟩ : 0 = r1 ∧ [] = r2 ∧ false = r3 := by simpa using h2
    clear h2
    go_enter Try.func16, Try.ntmps16
    go_wp2_with (go_at_call 32; refine (HW.out _).mono ?_; rintro e_ w1 ⟨rfl, q_, rfl⟩)
    refine bodyPost_ret (results_ct rfl _ _ w.heap.size 27 #[.int .i64 0, .slice none 0 0] (0, 0) _ rfl ?_ Try.underlying27 rfl (by kernel_rfl)) rfl ⟨_, rfl, Kd.S_nil _ _ _ _ _, ?_⟩
    · refine blk_put (cs := #[.int .i64 0, .slice none 0 0]) ?_ 1 _ rfl
      refine blk_put (cs := #[.int .i64 0, .slice none 0 0]) ?_ 0 _ rfl
      exact blk_drewN (blk_new _ _) _
    · exact below_set (below_set (pw_below_drewN (below_alloc (Below.refl _ _) _) _) (Nat.le_refl _)) (Nat.le_refl _)
  | true =>
    rw [if_pos rfl] at h2
    have ha : 1 ≤ a0 ∧ a0 ≤ 128 := by
      apply Classical.byContradiction; intro hn; rw [if_neg hn] at h2; cases h2
    rw [if_pos ha] at h2
    obtain ⟨m, hm1, h3⟩ := Option.bind_eq_some_iff.1 h2
    have hm : 0 ≤ m ∧ m ≤ 60 := by
      apply Classical.byContradiction; intro hn; rw [if_neg hn] at h3; cases h3
    rw [if_pos hm] at h3
    obtain ⟨rfl, rfl, rfl⟩ : a0 = r1 ∧ impl_BinaryCards.rows a0 m.toNat = r2 ∧ true = r3 := by simpa using h3
    have HFW := Aside0.mk (fun W => impl_fewestCards.calls a0 m W hm1)
    have HM := Aside0.mk hm
    have HA0 := Aside0.mk ha
    clear h2 h3 hm1 hm ha
    go_enter Try.func16, Try.ntmps16
    go_wp2_with (first | (go_at_call 32; refine (HW.out _).mono ?_; rintro e_ w1 ⟨rfl, q_, rfl⟩) | ((with_reducible refine gate_dst (N := 11) rfl ?_); refine Kd.S_lit (Kd.slice 3 (Kd.int .i64)) w.heap.size 46 ?hg (N := 11) ?hd (xs := ([] : List (List Int))) (inner := []) (ok := fun _ => True) (okp := fun _ => True) ?hr ?hp (fun _ hk => hk) trivial (pw_below_drewN (below_alloc (Below.refl _ _) _) _) (pw_below_drewN (below_alloc (Below.refl _ _) _) _).size (by simp) ?_; (case hd => rfl); (case hg => rfl); (case hr => first | (go_simp; done) | (go_simp; rfl)); (case hp => exact (Reps.none _ _)); intro v8 w3 ho hb hg_ hnew_; have BKr := Aside0.mk (blk_grown (blk_drewN (blk_new w (.cells #[.int .i64 0, .slice none 0 0] 27)) q_) hg_ (by simp)); clear hg_ hnew_; have HS := Aside0.mk ho; have HB3 := Aside0.mk hb; clear ho hb; obtain ⟨A8, c8, rfl⟩ := Kd.S_slice HS.out) | (go_at_call 40; refine (HFW.out _).mono ?_; rintro e_ w1 ⟨rfl, q2_, rfl⟩))
    have HBK := Aside0.mk (blk_lt BKr.out)
    have BKc := Aside0.mk (blk_drewN (blk_new w3 (.cells #[.int .i64 a0, .slice A8 0 c8] 27)) q2_)
    have BKr4 := Aside0.mk (blk_drewN (blk_alloc BKr.out (.cells #[.int .i64 a0, .slice A8 0 c8] 27)) q2_)
    have HS4 := Aside0.mk (Kd.S_drewN (Kd.S_alloc HS.out (.cells #[.int .i64 a0, .slice A8 0 c8] 27)) q2_)
    have HB4 := Aside0.mk (pw_below_drewN (below_alloc HB3.out (.cells #[.int .i64 a0, .slice A8 0 c8] 27)) q2_)
    generalize (w3.alloc (.cells #[.int .i64 a0, .slice A8 0 c8] 27)).drewN q2_ = w4 at BKc BKr4 HS4 HB4 ⊢
    clear HB3 BKr HS HW HFW
    generalize w3.heap.size = gc at HBK BKc ⊢
    obtain ⟨nm, hnm⟩ : ∃ nm : Nat, (nm : Int) = m := ⟨m.toNat, by have := HM.out; omega⟩
    go_loopg [15] nm (fun gg v15 wr => ∃ (i : Nat) (A : Option Addr) (c : Nat), i ≤ nm ∧ nm - i ≤ gg ∧ v15 = .int .i64 (i : Int) ∧ Aside0 (Kd.S (Kd.slice 3 (Kd.int .i64)) 46 wr w.heap.size (fun _ => True) (.slice A (impl_BinaryCards.rows a0 i).length c) (impl_BinaryCards.rows a0 i)) ∧ Aside0 (wr.heap[gc]? = some (.cells #[.int .i64 a0, .slice A (impl_BinaryCards.rows a0 i).length c] 27 (0, 0))) ∧ Aside0 (wr.heap[w.heap.size]? = some (.cells #[.int .i64 0, .slice none 0 0] 27 (0, 0))) ∧ Aside0 (Below w.heap.size w wr))
    case atStart => exact ⟨0, A8, c8, Nat.zero_le _, Nat.le_refl _, rfl, HS4, BKc, BKr4, HB4⟩
    case round =>
      clear HS4 BKc BKr4 HB4
      obtain ⟨i, Ao, co, hi, hg, rfl, HS, BKc, BKr, HBW⟩ := hrel
      have HI := Aside0.mk hi
      have HGG := Aside0.mk hg
      have HM2 := Aside0.mk hnm
      by_cases c1 : (i : Int) < m
      · have c1b : decide ((i : Int) < m) = true := decide_eq_true c1
        have HL := Aside0.mk c1
        clear c1 hi hg hnm
        go_wp2
        have BKb := Aside0.mk (blk_new wr (.cells #[.int .i64 (i : Int)] 3))
        have HSI := Aside0.mk (Kd.S_alloc HS.out (.cells #[.int .i64 (i : Int)] 3))
        have BKcI := Aside0.mk (blk_alloc BKc.out (.cells #[.int .i64 (i : Int)] 3))
        have BKrI := Aside0.mk (blk_alloc BKr.out (.cells #[.int .i64 (i : Int)] 3))
        have HBI := Aside0.mk (below_alloc HBW.out (.cells #[.int .i64 (i : Int)] 3))
        generalize wr.alloc (.cells #[.int .i64 (i : Int)] 3) = wI at BKb HSI BKcI BKrI HBI ⊢
        generalize wr.heap.size = bk at BKb ⊢
        clear HS BKc BKr HBW
        have HS := HSI
        have BKc := BKcI
        have BKr := BKrI
        have HBW := HBI
        clear HSI BKcI BKrI HBI
        have HBA := Aside0.mk (below_size HBW.out)
        have HC := Aside0.mk (fun (W : World) (hb : Below wI.heap.size wI W) => impl_cardOf.calls 42 #[.pointer (some ⟨bk, 0, none⟩)] (fun _ _ => rfl) (impl_BinaryCards.digit i) a0 (by have := HA0.out; omega) W (impl_BinaryCards.tells a0 (by have := HA0.out; omega) i (by have := HL.out; have := HM.out; omega) bk W (blk_below BKb.out hb)))
        obtain ⟨y, hy⟩ : ∃ y, impl_cardOf.card (impl_BinaryCards.digit i) a0.toNat = y := ⟨_, rfl⟩
        obtain ⟨rows, hrows⟩ : ∃ r_, impl_BinaryCards.rows a0 i = r_ := ⟨_, rfl⟩
        obtain ⟨rows2, hrows2⟩ : ∃ r_, r_ = rows ++ [y] := ⟨_, rfl⟩
        have HRL := Aside0.mk (show rows.length ≤ 60 by rw [← hrows]; unfold impl_BinaryCards.rows; rw [List.length_map, List.length_range]; have := HL.out; have := HM.out; omega)
        have HYL := Aside0.mk (show 0 < rows2.length by rw [hrows2]; simp)
        have HNX := Aside0.mk (show impl_BinaryCards.rows a0 (i + 1) = rows2 by rw [impl_BinaryCards.rows_succ, hrows, hrows2, ← hy]; rfl)
        have Ny2 := Aside0.mk hrows2
        rw [hy] at HC
        rw [hrows] at HS BKc
        clear hy hrows hrows2
        have HB := Aside0.mk (Below.refl wI.heap.size wI)
        have HCE := Aside0.mk (show wI.cell? ⟨gc, 1, none⟩ = some (.slice Ao rows.length co) from (blk_cell BKc.out 1).trans rfl)
        refine start_ (n := 9) (S := fun w' => w'.cell? ⟨gc, 1, none⟩ = some (.slice Ao rows.length co)) (ds := [8]) #[false, false, false, false, false, false, false, false, false] (by kernel_rfl) rfl rfl HCE.out (fun hHeld => ?_)
        replace HB := Aside0.mk (below_drew1 HB.out)
        generalize World.drew _ = w1 at HB hHeld ⊢
        refine pure_ (i := 0) (N := some 18) (v := ?_) (a' := ?_) #[true, false, false, false, false, false, false, false, false] rfl rfl (by kernel_rfl) (fun _ _ _ h => h) (Or.inl ⟨by rfl, ?_⟩) ?_ ?_
        rotate_left
        · intro w'
          go_simp
          with_reducible rfl
        rotate_left
        · simp only [Act.put, List.setIfInBounds_toArray, List.set_cons_zero, List.set_cons_succ, i64_w, i32_w]
          rfl
        refine take_ (i := 1) (N := some 19) (v := ?_) (a' := ?_) #[true, true, false, false, false, false, false, false, false] rfl rfl (by kernel_rfl) (fun _ _ _ h => h) (Or.inl ⟨by rfl, ?_⟩) hHeld ?_ ?_
        rotate_left
        · rintro w' s0
          go_simp
          with_reducible rfl
        rotate_left
        · simp only [Act.put, List.setIfInBounds_toArray, List.set_cons_zero, List.set_cons_succ, i64_w, i32_w]
          rfl
        refine pure_ (i := 2) (N := some 20) (v := ?_) (a' := ?_) #[true, true, true, false, false, false, false, false, false] rfl rfl (by kernel_rfl) (fun _ _ _ h => h) (Or.inl ⟨by rfl, ?_⟩) ?_ ?_
        rotate_left
        · intro w'
          go_simp
          with_reducible rfl
        rotate_left
        · simp only [Act.put, List.setIfInBounds_toArray, List.set_cons_zero, List.set_cons_succ, i64_w, i32_w]
          rfl
        refine one_ (i := 3) (N := some 21) #[true, true, true, true, false, false, false, false, false] rfl rfl (by kernel_rfl) (by decide) (fun K hK => ?_)
        refine value_ (w1 := w1) (v := .func (.func 42) #[] #[.pointer (some ⟨bk, 0, none⟩)]) (by rfl) rfl ?_ ?_
        · first | (go_simp; done) | (go_simp; rfl)
        refine hK.out _ _ hHeld (fun hHeld => ?_)
        clear hK K
        refine norm_ (a' := ?_) ?_ ?_
        rotate_left
        · show Act.put _ (some 21) _ = _
          simp only [Act.put, List.setIfInBounds_toArray, List.set_cons_zero, List.set_cons_succ, i64_w, i32_w]
          rfl
        refine one_ (i := 4) (N := some 22) #[true, true, true, true, true, false, false, false, false] rfl rfl (by kernel_rfl) (by decide) (fun K hK => ?_)
        refine goes_ Try.func41 (by kernel_rfl) rfl #[.int .i64 a0, .func (.func 42) #[] #[.pointer (some ⟨bk, 0, none⟩)]] (by rfl) rfl rfl (by (try simp only [List.map_toArray, List.map_cons, List.map_nil]); first | done | rfl | (simp only [List.length_drop, List.length_take]; rfl)) ?_
        refine (HC.out w1 HB.out).mono ?_
        rintro e_ w2 ⟨v2, rfl, ho, hb⟩
        refine ⟨_, rfl, ?_⟩
        obtain ⟨A2, c2, rfl⟩ := Kd.R_slice ho
        have HG := Aside0.mk (Kd.R_base ho)
        have HO := Aside0.mk (Kd.R_lower ho (below_size HB.out))
        have HS2 := Aside0.mk (Kd.S_old (Kd.S_below HS.out HB.out) hb)
        have HLT := Aside0.mk (Kd.S_lt (Kd.S_below HS.out HB.out))
        refine hK.out _ _ (pw_cell_below hb hHeld) (fun hHeld => ?_)
        replace HB := Aside0.mk (below_step HB.out hb)
        clear hK K hb ho
        refine norm_ (a' := ?_) ?_ ?_
        rotate_left
        · show Act.put _ (some 22) _ = _
          simp only [Act.put, List.setIfInBounds_toArray, List.set_cons_zero, List.set_cons_succ, i64_w, i32_w]
          rfl
        refine one_ (i := 5) (N := some 23) #[true, true, true, true, true, true, false, false, false] rfl rfl (by kernel_rfl) (by decide) (fun K hK => ?_)
        refine value_ (w1 := w2.alloc (.cells #[.slice A2 y.length c2] 46)) (v := .slice (some ⟨w2.heap.size, 0, none⟩) 1 1) (by rfl) rfl ?_ ?_
        · first | (go_simp; done) | (go_simp; rfl)
        refine hK.out _ _ (pw_cell_below (below_alloc (Below.refl _ _) _) hHeld) (fun hHeld => ?_)
        clear hK K
        refine norm_ (a' := ?_) ?_ ?_
        rotate_left
        · show Act.put _ (some 23) _ = _
          simp only [Act.put, List.setIfInBounds_toArray, List.set_cons_zero, List.set_cons_succ, i64_w, i32_w]
          rfl
        refine one_ (i := 6) (N := some 24) #[true, true, true, true, true, true, true, false, false] rfl rfl (by kernel_rfl) (by decide) (fun K hK => ?_)
        refine Kd.S_append_step (Kd.slice 3 (Kd.int .i64)) (w0 := w) w.heap.size (by rfl) (.tmp 19) (.tmp 23) 22 46 (.slice none 0 0) 24 rfl Try.underlying22 impl_BinaryCards.infoS rfl (by decide) (by omega) (.slice Ao rows.length co) rows y [.slice A2 y.length c2] (fun _ => True) (fun k_ => some k_ = (.slice A2 y.length c2 : Value).ownBlock) rfl rfl ?aP ?aK ?aF ?aO ?aB ?aS ?aL ?_
        case aP => exact Kd.M_row (Kd.R_tight rfl (Kd.R_lower HO.out HBA.out))
        case aK => exact fun k_ hk_ => ⟨trivial, fun e_ => by have h1_ := HLT.out k_ e_.symm; have h2_ := HG.out k_ hk_.symm; omega⟩
        case aF => exact fun _ _ => trivial
        case aO => exact Kd.S_mono HS2.out (fun k_ hk_ => ⟨trivial, fun e_ => by have h2_ := HG.out k_ e_.symm; have := hk_.2; omega⟩)
        case aB => exact below_step HBW.out HB.out
        case aS => exact Nat.le_trans HBA.out (below_size HB.out)
        case aL => have := HRL.out; omega
        intro v3 w5 ho hb hg hat
        rw [← Ny2.out] at ho
        have HS5 := Aside0.mk ho
        have BKc5 := Aside0.mk (blk_grown (blk_below BKc.out HB.out) hg (Kd.S_ne HS2.out (blk_below BKc.out HB.out) (by decide)))
        have BKr5 := Aside0.mk (blk_grown (blk_below BKr.out HB.out) hg (Kd.S_ne HS2.out (blk_below BKr.out HB.out) (by decide)))
        have HB5 := Aside0.mk hb
        refine hK.out _ _ ((blk_cell BKc5.out 1).trans rfl) (fun hHeld => ?_)
        clear hK K ho hb hg hat
        refine norm_ (a' := ?_) ?_ ?_
        rotate_left
        · show Act.put _ (some 24) _ = _
          simp only [Act.put, List.setIfInBounds_toArray, List.set_cons_zero, List.set_cons_succ, i64_w, i32_w]
          rfl
        refine pure_ (i := 7) (N := some 25) (v := ?_) (a' := ?_) #[true, true, true, true, true, true, true, true, false] rfl rfl (by kernel_rfl) (fun _ _ _ h => h) (Or.inl ⟨by rfl, ?_⟩) ?_ ?_
        rotate_left
        · intro w'
          go_simp
          with_reducible rfl
        rotate_left
        · simp only [Act.put, List.setIfInBounds_toArray, List.set_cons_zero, List.set_cons_succ, i64_w, i32_w]
          rfl
        obtain ⟨g3, cap3, rfl, hq1, hq2, hq3⟩ := Kd.S_form HS5.out (by have := HYL.out; omega)
        clear hq1 hq2 hq3
        refine last_ (i := 8) (N := none) #[true, true, true, true, true, true, true, true, true] rfl rfl (by kernel_rfl) (by decide) (fun K hK => ?_)
        have hs8 : w5.cell? ⟨gc, 1, none⟩ = some (.slice Ao rows.length co) := (blk_cell BKc5.out 1).trans rfl
        have hf8 := blk_frozen BKc5.out 1
        refine skip_ (w1 := w5.setCell ⟨gc, 1, none⟩ (.slice (some ⟨g3, 0, none⟩) rows2.length cap3)) (by rfl) rfl ?_ ?_
        · first | (go_simp; done) | (go_simp; rfl)
        refine hK.out _ _ ?_
        clear hK K hs8 hf8
        refine done_ (by kernel_rfl) ?_
        go_wp2
        have hiq : wrap64 ((i : Int) + 1) = (((i + 1 : Nat) : Int)) := by have := HL.out; have := HM.out; unfold wrap64; omega
        rw [hiq]
        have HBR := Aside0.mk (blk_far BKr5.out (p := ⟨gc, 1, none⟩) (by have := HBK.out; show w.heap.size ≠ gc; omega) (.slice (some ⟨g3, 0, none⟩) rows2.length cap3))
        go_roundg (nm - (i + 1))
        case measure => have := HGG.out; have := HL.out; have := HM2.out; omega
        case rel => exact ⟨i + 1, some ⟨g3, 0, none⟩, cap3, by have := HL.out; have := HM2.out; omega, Nat.le_refl _, rfl, ⟨by rw [HNX.out]; exact Kd.S_set HS5.out BKc5.out (by decide) 1 _⟩, ⟨by rw [HNX.out]; exact blk_put (cs := #[.int .i64 a0, .slice Ao rows.length co]) BKc5.out 1 _ rfl⟩, HBR, ⟨below_set HB5.out (Nat.le_of_lt HBK.out)⟩⟩
      · have c1b : decide ((i : Int) < m) = false := decide_eq_false c1
        obtain rfl : i = nm := by have := HI.out; have := HM2.out; omega
        clear c1 hi hg hnm
        have hs0 : wr.cell? ⟨gc, 0, none⟩ = some (.int .i64 a0) := (blk_cell BKc.out 0).trans rfl
        have hs1 : wr.cell? ⟨gc, 1, none⟩ = some (.slice Ao (impl_BinaryCards.rows a0 i).length co) := (blk_cell BKc.out 1).trans rfl
        have hf0 := blk_frozen BKr.out 0
        have hf1 := blk_frozen BKr.out 1
        have hr0 : wr.cell? ⟨w.heap.size, 0, none⟩ = some (.int .i64 0) := (blk_cell BKr.out 0).trans rfl
        have hr1 : wr.cell? ⟨w.heap.size, 1, none⟩ = some (.slice none 0 0) := (blk_cell BKr.out 1).trans rfl
        go_wp2
        refine bodyPost_ret (results_ct rfl _ _ w.heap.size 27 #[.int .i64 a0, .slice Ao (impl_BinaryCards.rows a0 i).length co] (0, 0) _ rfl ?_ Try.underlying27 rfl (by kernel_rfl)) rfl ?_
        · refine blk_put (cs := #[.int .i64 a0, .slice none 0 0]) ?_ 1 _ rfl
          refine blk_put (cs := #[.int .i64 0, .slice none 0 0]) ?_ 0 _ rfl
          exact BKr.out
        · have e_ : m.toNat = i := by have := HM2.out; omega
          rw [e_]
          exact ⟨_, rfl, Kd.S_mono (Kd.S_far (p := ⟨w.heap.size, 1, none⟩) (Kd.S_far (p := ⟨w.heap.size, 0, none⟩) (Kd.S_types HS.out BKr.out (by decide)) (fun _ hk => hk.2) _) (fun _ hk => hk.2) _) (fun _ hk => trivial), below_set (below_set HBW.out (Nat.le_refl _)) (Nat.le_refl _)⟩

end Go.Proofs.Ytpekdmadmggbpaa.Cc
