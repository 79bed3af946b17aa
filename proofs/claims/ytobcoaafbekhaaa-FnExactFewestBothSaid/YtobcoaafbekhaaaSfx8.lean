/- Functions of the program and of the reference as Lean functions, and the contracts of their calls: laid by a program of this repo (wip/gen.py), in part by hand. -/
import Derived.Test.YtobcoaafbekhaaaSfx0
import Derived.Test.YtobcoaafbekhaaaSfx1
import Derived.Test.YtobcoaafbekhaaaSfx5
import Derived.Test.YtobcoaafbekhaaaSfx6
import Derived.Test.YtobcoaafbekhaaaSfx7
namespace Go.Proofs.Ytobcoaafbekhaaa.Sf
open Go.RowKit Go.Proofs.YtobcoaafbekhaaaW.PrintWords Go.Proofs.YtobcoaafbekhaaaW.PrintLast Go.Proofs.YtobcoaafbekhaaaW.PrintMore
attribute [local go_sem] max2_int min2_int max_two min_two max_three min_three max_four min_four   -- for this text's walks alone
set_option linter.unusedVariables false
set_option linter.unusedSimpArgs false

/-! ### impl_sides_waysTo: function 48 -/
/-- How many signs of the pieces from piece i on have a value. -/
def impl_sidesOf.waysTo (l : List Int) (i : Nat) (n : Int) : Int := if 0 ≤ n + (l.drop i).sum ∧ n + (l.drop i).sum ≤ 2 * (l.drop i).sum then rd (impl_sidesOf.tabs (l.drop i)).1 (n + (l.drop i).sum) else 0
theorem impl_sidesOf.goodp {l : List Int} (h : impl_sidesOf.good l = true) : l.length ≤ 12 ∧ ∀ x ∈ l, 1 ≤ x ∧ x ≤ 10000 := by
  unfold impl_sidesOf.good at h
  rw [Bool.and_eq_true, decide_eq_true_eq, List.all_eq_true] at h
  exact ⟨h.1, fun x hx => of_decide_eq_true (h.2 x hx)⟩
theorem impl_sidesOf.Sides.cells {W : World} {l0 : List Int} {v : Value} (h : impl_sidesOf.Sides W l0 v) (i : Nat) (hi : i ≤ l0.length) :
    ∃ A c Bw Bf Bt g1 g2, v = .agg #[.slice A l0.length c, .slice (some ⟨Bw, 0, none⟩) (l0.length + 1) (l0.length + 1), .slice (some ⟨Bf, 0, none⟩) (l0.length + 1) (l0.length + 1), .slice (some ⟨Bt, 0, none⟩) (l0.length + 1) (l0.length + 1)] ∧
      W.cell? ⟨Bt, i, none⟩ = some (.int .i64 (l0.drop i).sum) ∧ W.cell? ⟨Bw, i, none⟩ = some (.slice (some ⟨g1, 0, none⟩) (impl_sidesOf.tabs (l0.drop i)).1.length (impl_sidesOf.tabs (l0.drop i)).1.length) ∧ W.cell? ⟨Bf, i, none⟩ = some (.slice (some ⟨g2, 0, none⟩) (impl_sidesOf.tabs (l0.drop i)).2.length (impl_sidesOf.tabs (l0.drop i)).2.length) ∧
      (∀ k, k < (impl_sidesOf.tabs (l0.drop i)).1.length → W.cell? ⟨g1, k, none⟩ = some (.int .i64 (rd (impl_sidesOf.tabs (l0.drop i)).1 (k : Int)))) ∧ (∀ k, k < (impl_sidesOf.tabs (l0.drop i)).2.length → W.cell? ⟨g2, k, none⟩ = some (.int .i64 (rd (impl_sidesOf.tabs (l0.drop i)).2 (k : Int)))) ∧
      (Bt < W.heap.size ∧ Bw < W.heap.size ∧ Bf < W.heap.size) ∧ g1 < W.heap.size ∧ g2 < W.heap.size := by
  obtain ⟨A, c, Bw, Bf, Bt, M, N, cw, cf, ts, e, h1, h2, h3, h4, h5, h6⟩ := h
  obtain ⟨⟨g1, k1, a1, b1⟩, ⟨g2, k2, a2, b2⟩, et⟩ := h6 i (Nat.zero_le _) hi
  refine ⟨A, c, Bw, Bf, Bt, g1, g2, e, ?_, ?_, ?_, fun k hk => (impl_sidesOf.row_cell b1 k hk).1, fun k hk => (impl_sidesOf.row_cell b2 k hk).1, ⟨(Array.getElem?_eq_some_iff.1 h3).1, (Array.getElem?_eq_some_iff.1 h1).1, (Array.getElem?_eq_some_iff.1 h2).1⟩, (Array.getElem?_eq_some_iff.1 b1).1, (Array.getElem?_eq_some_iff.1 b2).1⟩
  · rw [cell_of_row W _ _ _ _ _ h3, ← et]; simp [nums, show i < ts.length by omega]
  · rw [cell_of_row W _ _ _ _ _ h1, ← a1]; simp [show i < cw.length by omega]
  · rw [cell_of_row W _ _ _ _ _ h2, ← a2]; simp [show i < cf.length by omega]
set_option maxHeartbeats 8000000 in
set_option maxRecDepth 100000 in
theorem impl_sidesOf.waysTo_calls (l0 : List Int) (hg : impl_sidesOf.good l0 = true) (i : Nat) (hi : i ≤ l0.length) (n : Int) (hn : -3000000 ≤ n ∧ n ≤ 3000000) (v : Value) (w : World) (hS : impl_sidesOf.Sides w l0 v) :
    Calls Try.prog 48 #[v, .int .i64 (i : Int), .int .i64 n] w fun e w' => e = .returned (.int .i64 (impl_sidesOf.waysTo l0 i n)) ∧ Below w.heap.size w w' := by
  obtain ⟨hl, hg2⟩ := impl_sidesOf.goodp hg
  obtain ⟨A, c, Bw, Bf, Bt, g1, g2, rfl, hT, hW, _, c1, _, ⟨s1, s2, _⟩, s4, _⟩ := hS.cells i hi
  have hlen := (impl_sidesOf.tabs_len (l0.drop i) (fun x hx => hg2 x (List.mem_of_mem_drop hx))).1
  have hsum := impl_sidesOf.sum_le (l0.drop i) (fun x hx => hg2 x (List.mem_of_mem_drop hx))
  rw [List.length_drop] at hsum
  have HR := Aside0.mk (show impl_sidesOf.waysTo l0 i n = _ from rfl)
  have HX := Aside0.mk (show ∀ k : Nat, k < (impl_sidesOf.tabs (l0.drop i)).1.length → _ from c1)
  obtain ⟨r, hr⟩ : ∃ r, impl_sidesOf.waysTo l0 i n = r := ⟨_, rfl⟩
  have HRR := Aside0.mk hr
  unfold impl_sidesOf.waysTo at hr
  obtain ⟨t, ht⟩ : ∃ t, (l0.drop i).sum = t := ⟨_, rfl⟩
  rw [ht] at hT hlen hsum hr
  obtain ⟨m, hm⟩ : ∃ m : Nat, (m : Int) = 2 * t + 1 := ⟨(2 * t + 1).toNat, by omega⟩
  rw [show (2 * t + 1).toNat = m by omega] at hlen
  rw [hlen] at hW c1
  have HMM := Aside0.mk hm
  have HB := Aside0.mk (below_alloc (Below.refl w.heap.size w) (.cells #[.slice A l0.length c, .slice (some ⟨Bw, 0, none⟩) (l0.length + 1) (l0.length + 1), .slice (some ⟨Bf, 0, none⟩) (l0.length + 1) (l0.length + 1), .slice (some ⟨Bt, 0, none⟩) (l0.length + 1) (l0.length + 1)] 47))
  have htb : 0 ≤ t ∧ t ≤ 120000 := by omega
  have hib : (0 : Int) ≤ i ∧ (i : Int) < (l0.length : Int) + 1 := by omega
  rw [HRR.out]
  clear HX HR HRR hS hsum hg hg2 hm ht
  by_cases hin : 0 ≤ n + t ∧ n + t ≤ 2 * t
  · rw [if_pos hin] at hr
    have hx := c1 (n + t).toNat (by have := HMM.out; omega)
    rw [show (((n + t).toNat : Nat) : Int) = n + t by omega, hr] at hx
    have hib2 : 0 ≤ n + t ∧ n + t < (m : Int) := by have := HMM.out; omega
    have hK := fun W => impl_within.calls (n + t) 0 (2 * t) true W (by unfold impl_within.f; rw [if_pos hin.1, decide_eq_true hin.2])
    have HK := Aside0.mk hK
    clear hK hin c1 hr hlen
    go_enter Try.func48, Try.ntmps48
    go_wp2_with (go_at_call 42; refine (HK.out _).mono ?_; rintro e w1 ⟨rfl, q, rfl⟩)
    go_ret
    exact ⟨rfl, pw_below_drewN HB.out _⟩
  · rw [if_neg hin] at hr
    have hK := fun W => impl_within.calls (n + t) 0 (2 * t) false W (by
      unfold impl_within.f
      by_cases h0 : 0 ≤ n + t
      · rw [if_pos h0, decide_eq_false (fun h => hin ⟨h0, h⟩)]
      · rw [if_neg h0])
    have HK := Aside0.mk hK
    obtain rfl : 0 = r := hr
    clear hK hin c1 hlen
    go_enter Try.func48, Try.ntmps48
    go_wp2_with (go_at_call 42; refine (HK.out _).mono ?_; rintro e w1 ⟨rfl, q, rfl⟩)
    go_ret
    exact ⟨rfl, pw_below_drewN HB.out _⟩
theorem impl_sidesOf.calls1 (A0 : Option Addr) (c0 : Nat) (l0 : List Int) (hg : impl_sidesOf.good l0 = true) (w : World) (hr0 : Kd.C (Kd.int .i64) w A0 l0.length l0) (hc0 : l0.length ≤ c0) :
    Calls Try.prog 47 #[.slice A0 l0.length c0] w fun e w' => ∃ v, e = .returned v ∧ impl_sidesOf.Sides w' l0 v ∧ Below w.heap.size w w' :=
  impl_sidesOf.calls0 A0 c0 l0 w hr0 hc0 (impl_sidesOf.goodp hg).1 (impl_sidesOf.goodp hg).2

/-! ### impl_FewestBoth: function 33 -/
def impl_FewestBoth.f (k : Nat) (l0 : List Int) (a1 : Int) : Option (Int × Bool) := (impl_isBoth.f k l0 a1).bind fun t => if t = true then (if impl_sidesOf.good l0 = true ∧ 0 ≤ a1 ∧ a1 ≤ 1000000 then (if impl_sidesOf.waysTo l0 0 a1 = 0 then some (0, false) else if a1 ≤ l0.sum then some (rd (impl_sidesOf.tabs l0).2 (a1 + l0.sum), true) else none) else none) else some (0, false)
theorem impl_FewestBoth.mono : ∀ a0 a1 k, LeO (impl_FewestBoth.f k a0 a1) (impl_FewestBoth.f (k + 1) a0 a1) := by
  intro a0 a1 k
  unfold impl_FewestBoth.f
  exact LeO.bind (impl_isBoth.mono _ _ _) (fun _ => LeO.refl _)
set_option maxHeartbeats 8000000 in
set_option maxRecDepth 100000 in
theorem impl_FewestBoth.calls (k : Nat) (A0 : Option Addr) (c0 : Nat) (l0 : List Int) (a1 : Int) (r1 : Int) (r2 : Bool) (w : World) (hr0 : Kd.C (Kd.int .i64) w A0 l0.length l0) (hc0 : l0.length ≤ c0) (h : impl_FewestBoth.f k l0 a1 = some (r1, r2)) :
    Calls Try.prog 33 #[.slice A0 l0.length c0, .int .i64 a1] w fun e w' => e = .returned (.tuple #[.int .i64 r1, .bool r2]) ∧ Below w.heap.size w w' := by
  obtain ⟨t, h1, h2⟩ := Option.bind_eq_some_iff.1 h
  clear h
  have HI := Aside0.mk (fun W (hb : Below w.heap.size w W) => impl_isBoth.calls k A0 c0 l0 a1 t W (Kd.C_below hr0 hb) hc0 h1)
  clear h1
  cases t with
  | false =>
    obtain ⟨rfl, rfl⟩ : 0 = r1 ∧ false = r2 := by simpa using (if_neg (by simp)).symm.trans h2
    clear h2 hr0 hc0
    go_enter Try.func33, Try.ntmps33
    go_wp2_with (go_at_call 46; refine (HI.out _ (Below.refl _ _)).mono ?_; rintro e w1 ⟨rfl, hb⟩)
    go_ret2
    exact ⟨rfl, hb⟩
  | true =>
    rw [if_pos rfl] at h2
    have hg : impl_sidesOf.good l0 = true ∧ 0 ≤ a1 ∧ a1 ≤ 1000000 := by
      apply Classical.byContradiction; intro hn; rw [if_neg hn] at h2; cases h2
    rw [if_pos hg] at h2
    have HS := Aside0.mk (fun W (hb : Below w.heap.size w W) => (impl_sidesOf.calls1 A0 c0 l0 hg.1 W (Kd.C_below hr0 hb) hc0))
    have HW := Aside0.mk (fun v W (hs : impl_sidesOf.Sides W l0 v) => impl_sidesOf.waysTo_calls l0 hg.1 0 (Nat.zero_le _) a1 (by omega) v W hs)
    have HG := Aside0.mk (impl_sidesOf.goodp hg.1)
    have ha : 0 ≤ a1 ∧ a1 ≤ 1000000 := hg.2
    clear hr0 hc0 hg
    obtain ⟨x, hx⟩ : ∃ x, impl_sidesOf.waysTo l0 0 a1 = x := ⟨_, rfl⟩
    rw [hx] at h2
    rw [hx] at HW
    clear hx
    have HF := Aside0.mk (fun (W : World) (v : Value) (hs : impl_sidesOf.Sides W l0 v) => hs.cells 0 (Nat.zero_le _))
    by_cases hx0 : x = 0
    · subst hx0
      rw [if_pos rfl] at h2
      obtain ⟨rfl, rfl⟩ : 0 = r1 ∧ false = r2 := by simpa using h2
      clear h2
      go_enter Try.func33, Try.ntmps33
      go_wp2_with (first | (go_at_call 46; refine (HI.out _ (Below.refl _ _)).mono ?_; rintro e w1 ⟨rfl, hb⟩; have HB := Aside0.mk hb; clear hb) | (go_at_call 47; refine (HS.out _ HB.out).mono ?_; rintro e w2 ⟨v, rfl, hs, hb⟩; have HB2 := Aside0.mk (below_step HB.out hb); obtain ⟨A, c, Bw, Bf, Bt, g1, g2, rfl, _⟩ := HF.out _ _ hs; have HS2 := Aside0.mk hs; clear hb hs) | (go_at_call 48; refine (HW.out _ _ (HS2.out.move (below_alloc (Below.refl _ _) _))).mono ?_; rintro e w3 ⟨rfl, hb⟩; have HB3 := Aside0.mk (below_step (below_alloc HB2.out _) hb); clear hb))
      go_ret2
      exact ⟨rfl, HB3.out⟩
    · rw [if_neg hx0] at h2
      have hal : a1 ≤ l0.sum := by
        apply Classical.byContradiction; intro hn; rw [if_neg hn] at h2; cases h2
      rw [if_pos hal] at h2
      obtain ⟨hr1, rfl⟩ : rd (impl_sidesOf.tabs l0).2 (a1 + l0.sum) = r1 ∧ true = r2 := by simpa using h2
      have HR1 := Aside0.mk hr1
      clear h2 hr1
      have hxb : (x == 0) = false := by simp [hx0]
      have HAL := Aside0.mk hal
      clear hx0 hal
      go_enter Try.func33, Try.ntmps33
      go_upto_region 6 with (first | (go_at_call 46; refine (HI.out _ (Below.refl _ _)).mono ?_; rintro e w1 ⟨rfl, hb⟩; have HB := Aside0.mk hb; clear hb) | (go_at_call 47; refine (HS.out _ HB.out).mono ?_; rintro e w2 ⟨v, rfl, hs, hb⟩; have HB2 := Aside0.mk (below_step HB.out hb); obtain ⟨A, c, Bw, Bf, Bt, g1, g2, rfl, _⟩ := HF.out _ _ hs; have HS2 := Aside0.mk hs; clear hb hs) | (go_at_call 48; refine (HW.out _ _ (HS2.out.move (below_alloc (Below.refl _ _) _))).mono ?_; rintro e w3 ⟨rfl, hb⟩; have HB3 := Aside0.mk (below_step (below_alloc HB2.out _) hb); have HB4 := Aside0.mk hb; clear hb))
      have z2 := (HB4.out.cell (p := ⟨w2.heap.size, 2, none⟩) (by simp)).trans (show World.cell? _ _ = some (.slice (some ⟨Bf, 0, none⟩) (l0.length + 1) (l0.length + 1)) by go_simp)
      have z3 := (HB4.out.cell (p := ⟨w2.heap.size, 3, none⟩) (by simp)).trans (show World.cell? _ _ = some (.slice (some ⟨Bt, 0, none⟩) (l0.length + 1) (l0.length + 1)) by go_simp)
      obtain ⟨A', c', Bw', Bf', Bt', g1', g2', ee, hT, _, hFF, _, c2, _⟩ := HF.out _ _ ((HS2.out.move (below_alloc (Below.refl _ _) _)).move HB4.out)
      injection ee with ee
      have ee2 := congrArg Array.toList ee
      simp only [List.cons.injEq, Value.slice.injEq, Option.some.injEq, Addr.mk.injEq] at ee2
      obtain ⟨_, ⟨⟨rfl, _⟩, _⟩, ⟨⟨rfl, _⟩, _⟩, ⟨⟨rfl, _⟩, _⟩, _⟩ := ee2
      rw [List.drop_zero] at hT hFF c2
      have hsum := impl_sidesOf.sum_le l0 HG.out.2
      have hlen := (impl_sidesOf.tabs_len l0 HG.out.2).2
      have hx := c2 (a1 + l0.sum).toNat (by rw [hlen]; have := HAL.out; omega)
      rw [show (((a1 + l0.sum).toNat : Nat) : Int) = a1 + l0.sum by omega] at hx
      rw [hlen] at hFF
      rw [HR1.out] at hx
      obtain ⟨m, hm⟩ : ∃ m : Nat, (m : Int) = 2 * l0.sum + 1 := ⟨(2 * l0.sum + 1).toNat, by omega⟩
      rw [show (2 * l0.sum + 1).toNat = m by omega] at hFF
      have hmb : (0 : Int) ≤ a1 + l0.sum ∧ a1 + l0.sum < (m : Int) := by have := HAL.out; omega
      have hll := HG.out.1
      have h0b : (0 : Int) < (l0.length : Int) + 1 := by omega
      clear c2 hlen ee HF hm HR1
      generalize l0.sum = t at *
      have ht2 : 0 ≤ t ∧ t ≤ 120000 := by omega
      go_region
      all_goals
        go_wp2_with fail
        go_ret2
        exact ⟨rfl, pw_below_drewN HB3.out 1⟩

/-! ### laws_FnExactFewestBoth: function 10 -/
def laws_FnExactFewestBoth.j0 : Nat → List Int → List Int → Bool → Option (Bool)
  | 0, _, _, _ => none
  | k + 1, x0, x7, x35 => if x35 = true then (some false) else ((laws_toIntS.f k x0).bind fun t186 => ((laws_eqIntS.f k x7 t186).bind fun t189 => (if t189 = true then (some true) else (some false))))
def laws_FnExactFewestBoth.f (k : Nat) (l0 : List Int) (a1 : Int) : Option (Bool) := if (l0.length : Int) > 1048576 then (some true) else ((laws_toIntS.f k l0).bind fun t176 => ((spec_FewestBoth.f k t176 a1).bind fun bt179 => ((laws_toIntS.f k l0).bind fun t181 => ((impl_FewestBoth.f k t181 a1).bind fun bt184 => (if bt184.1 = bt179.1 then (laws_FnExactFewestBoth.j0 k l0 t181 (bt184.2 != bt179.2)) else (laws_FnExactFewestBoth.j0 k l0 t181 true))))))
theorem laws_FnExactFewestBoth.mono_l : ∀ k, (∀ y0 y1 y2, LeO (laws_FnExactFewestBoth.j0 k y0 y1 y2) (laws_FnExactFewestBoth.j0 (k + 1) y0 y1 y2))
  | 0 => fun _ _ _ r h => by simp [laws_FnExactFewestBoth.j0] at h
  | k + 1 => by
    have ih0 := laws_FnExactFewestBoth.mono_l k
    · intro y0 y1 y2
      unfold laws_FnExactFewestBoth.j0
      repeat' first
      | (with_reducible exact ih0 _ _ _)
      | (with_reducible exact impl_FewestBoth.mono _ _ _)
      | (with_reducible exact laws_eqIntS.mono _ _ _)
      | (with_reducible exact laws_toIntS.mono _ _)
      | (with_reducible exact spec_FewestBoth.mono _ _ _)
      | (with_reducible exact LeO.refl _)
      | (with_reducible exact LeO.none _)
      | (with_reducible refine LeO.ite ?_ ?_)
      | (with_reducible refine LeO.bind ?_ (fun _ => ?_))
      | exact ih0 _ _ _
      | exact impl_FewestBoth.mono _ _ _
      | exact laws_eqIntS.mono _ _ _
      | exact laws_toIntS.mono _ _
      | exact spec_FewestBoth.mono _ _ _
      | exact LeO.none _
      | refine LeO.ite ?_ ?_
      | refine LeO.bind ?_ (fun _ => ?_)
theorem laws_FnExactFewestBoth.mono : ∀ a0 a1 k, LeO (laws_FnExactFewestBoth.f k a0 a1) (laws_FnExactFewestBoth.f (k + 1) a0 a1) := by
  intro a0 a1 k
  have ih0 := laws_FnExactFewestBoth.mono_l k
  unfold laws_FnExactFewestBoth.f
  repeat' first
      | (with_reducible exact ih0 _ _ _)
      | (with_reducible exact impl_FewestBoth.mono _ _ _)
      | (with_reducible exact laws_eqIntS.mono _ _ _)
      | (with_reducible exact laws_toIntS.mono _ _)
      | (with_reducible exact spec_FewestBoth.mono _ _ _)
      | (with_reducible exact LeO.refl _)
      | (with_reducible exact LeO.none _)
      | (with_reducible refine LeO.ite ?_ ?_)
      | (with_reducible refine LeO.bind ?_ (fun _ => ?_))
      | exact ih0 _ _ _
      | exact impl_FewestBoth.mono _ _ _
      | exact laws_eqIntS.mono _ _ _
      | exact laws_toIntS.mono _ _
      | exact spec_FewestBoth.mono _ _ _
      | exact LeO.none _
      | refine LeO.ite ?_ ?_
      | refine LeO.bind ?_ (fun _ => ?_)
set_option maxHeartbeats 8000000 in
set_option maxRecDepth 100000 in
theorem laws_FnExactFewestBoth.calls (k : Nat) (A0 : Option Addr) (c0 : Nat) (l0 : List Int) (a1 : Int) (r : Bool) (w : World) (hr0 : Kd.C (Kd.int .i64) w A0 l0.length l0) (hc0 : l0.length ≤ c0) (h : laws_FnExactFewestBoth.f k l0 a1 = some r) :
    Calls Try.prog 10 #[.slice A0 l0.length c0, .int .i64 a1] w fun e w' => e = .returned (.bool r) ∧ Below w.heap.size w w' := by
  have HR0 := Aside0.mk hr0
  have HC0 := Aside0.mk hc0
  clear hr0 hc0
  have HB := Aside0.mk (Below.refl w.heap.size w)
  have H : (if (l0.length : Int) > 1048576 then (some true) else ((laws_toIntS.f k l0).bind fun t176 => ((spec_FewestBoth.f k t176 a1).bind fun bt179 => ((laws_toIntS.f k l0).bind fun t181 => ((impl_FewestBoth.f k t181 a1).bind fun bt184 => (if bt184.1 = bt179.1 then (laws_FnExactFewestBoth.j0 k l0 t181 (bt184.2 != bt179.2)) else (laws_FnExactFewestBoth.j0 k l0 t181 true))))))) = some r := h
  clear h
  by_cases c3 : (l0.length : Int) > 1048576
  · rw [if_pos c3] at H
    have c3b0 : decide (1048576 < (l0.length : Int)) = true := decide_eq_true c3
    have c3b1 : decide (1048576 < l0.length) = true := decide_eq_true (by omega)
    clear c3
    obtain rfl := Option.some.inj H
    go_enter Try.func10, Try.ntmps10
    go_wp2
    go_ret
    exact ⟨by first | rfl | (simp [errW_none, errW_some] <;> rfl) | (simp [*, errW_none, errW_some] <;> rfl), by repeat (first | (with_reducible first | exact HB.out | apply below_alloc | apply pw_below_drewN | apply below_drew1) | exact HB.out)⟩
  · rw [if_neg c3] at H
    have c3b0 : decide (1048576 < (l0.length : Int)) = false := decide_eq_false c3
    have c3b1 : decide (1048576 < l0.length) = false := decide_eq_false (by omega)
    clear c3
    replace H := Option.bind_eq_some_iff.mp H
    obtain ⟨t176, A40, H⟩ := H
    replace H : ((spec_FewestBoth.f k t176 a1).bind fun bt179 => ((laws_toIntS.f k l0).bind fun t181 => ((impl_FewestBoth.f k t181 a1).bind fun bt184 => (if bt184.1 = bt179.1 then (laws_FnExactFewestBoth.j0 k l0 t181 (bt184.2 != bt179.2)) else (laws_FnExactFewestBoth.j0 k l0 t181 true))))) = some r := H
    have A4 := Aside0.mk A40
    clear A40
    replace H := Option.bind_eq_some_iff.mp H
    obtain ⟨⟨t179, t180⟩, A50, H⟩ := H
    replace H : ((laws_toIntS.f k l0).bind fun t181 => ((impl_FewestBoth.f k t181 a1).bind fun bt184 => (if bt184.1 = t179 then (laws_FnExactFewestBoth.j0 k l0 t181 (bt184.2 != t180)) else (laws_FnExactFewestBoth.j0 k l0 t181 true)))) = some r := H
    have A5 := Aside0.mk A50
    clear A50
    replace H := Option.bind_eq_some_iff.mp H
    obtain ⟨t181, A60, H⟩ := H
    replace H : ((impl_FewestBoth.f k t181 a1).bind fun bt184 => (if bt184.1 = t179 then (laws_FnExactFewestBoth.j0 k l0 t181 (bt184.2 != t180)) else (laws_FnExactFewestBoth.j0 k l0 t181 true))) = some r := H
    have A6 := Aside0.mk A60
    clear A60
    replace H := Option.bind_eq_some_iff.mp H
    obtain ⟨⟨t184, t185⟩, A70, H⟩ := H
    replace H : (if t184 = t179 then (laws_FnExactFewestBoth.j0 k l0 t181 (t185 != t180)) else (laws_FnExactFewestBoth.j0 k l0 t181 true)) = some r := H
    have A7 := Aside0.mk A70
    clear A70
    have HC8 := Aside0.mk H
    clear H
    go_enter Try.func10, Try.ntmps10
    go_upto_region 6 with (first | ((with_reducible refine gate_callee (f := 20) rfl ?_); refine goesL_ (some 15) rfl rfl Try.func20 (by kernel_rfl) rfl #[.slice A0 l0.length c0] rfl (by (try simp only [List.map_toArray, List.map_cons, List.map_nil]); first | done | rfl | (simp only [List.length_drop, List.length_take]; rfl)) ?_; (with_reducible refine (laws_toIntS.calls k _ _ l0 t176 _ ?side1 ?side2 A4.out).mono ?_); (case side1 => repeat (first | exact HR0.out | (with_reducible refine Kd.C_alloc ?_ _) | (with_reducible refine Kd.C_drewN ?_ _) | (with_reducible refine Kd.C_drew ?_))); (case side2 => exact HC0.out); rintro e w9 ⟨v177, rfl, ho0, hb⟩; refine ⟨_, rfl, ?_⟩; have n0_ := Aside0.mk (Kd.R_lower ho0 (below_size (by repeat (first | (with_reducible first | exact HB.out | apply below_alloc | apply pw_below_drewN | apply below_drew1) | exact HB.out)))); have n1_ := Aside0.mk (below_step (by repeat (first | (with_reducible first | exact HB.out | apply below_alloc | apply pw_below_drewN | apply below_drew1) | exact HB.out)) hb); clear HB; have HO178 := n0_; have HB := n1_; clear n0_ n1_; (try clear hb); (try clear hb2); (try clear hk); (try clear hi); (try clear ho0); obtain ⟨Ao10, co10, eo10⟩ := Kd.R_slice HO178.out; subst eo10) | ((with_reducible refine gate_callee (f := 32) rfl ?_); refine goesL_ (some 17) rfl rfl Try.func32 (by kernel_rfl) rfl #[.slice Ao10 t176.length co10, .int .i64 a1] rfl (by (try simp only [List.map_toArray, List.map_cons, List.map_nil]); first | done | rfl | (simp only [List.length_drop, List.length_take]; rfl)) ?_; (with_reducible refine (spec_FewestBoth.calls k _ _ t176 a1 t179 t180 _ ?side1 ?side2 A5.out).mono ?_); (case side1 => repeat (first | exact (Kd.R_reads' HO178.out).2.2 | (with_reducible refine Kd.C_alloc ?_ _) | (with_reducible refine Kd.C_drewN ?_ _) | (with_reducible refine Kd.C_drew ?_))); (case side2 => exact (Kd.R_reads' HO178.out).2.1); rintro e w11 ⟨rfl, hb⟩; refine ⟨_, rfl, ?_⟩; have n0_ := Aside0.mk (Kd.R_below (by (with_reducible repeat (first | apply Kd.R_alloc | apply Kd.R_drewN | apply Kd.R_drew)); exact HO178.out) hb); have n1_ := Aside0.mk (below_step (by repeat (first | (with_reducible first | exact HB.out | apply below_alloc | apply pw_below_drewN | apply below_drew1) | exact HB.out)) hb); clear HO178; clear HB; have HO178 := n0_; have HB := n1_; clear n0_ n1_; (try clear hb); (try clear hb2); (try clear hk); (try clear hi)) | ((with_reducible refine gate_callee (f := 20) rfl ?_); refine goesL_ (some 21) rfl rfl Try.func20 (by kernel_rfl) rfl #[.slice A0 l0.length c0] rfl (by (try simp only [List.map_toArray, List.map_cons, List.map_nil]); first | done | rfl | (simp only [List.length_drop, List.length_take]; rfl)) ?_; (with_reducible refine (laws_toIntS.calls k _ _ l0 t181 _ ?side1 ?side2 A6.out).mono ?_); (case side1 => repeat (first | exact (Kd.C_below HR0.out HB.out) | (with_reducible refine Kd.C_alloc ?_ _) | (with_reducible refine Kd.C_drewN ?_ _) | (with_reducible refine Kd.C_drew ?_))); (case side2 => exact HC0.out); rintro e w12 ⟨v182, rfl, ho0, hb⟩; refine ⟨_, rfl, ?_⟩; have n0_ := Aside0.mk (Kd.R_elder' (by (with_reducible repeat (first | apply Kd.R_alloc | apply Kd.R_drewN | apply Kd.R_drew)); exact HO178.out) (Kd.R_base ho0) hb); have n1_ := Aside0.mk (Kd.R_lower (Kd.R_new' ho0 (Kd.R_lt (by (with_reducible repeat (first | apply Kd.R_alloc | apply Kd.R_drewN | apply Kd.R_drew)); exact HO178.out))) (below_size (by repeat (first | (with_reducible first | exact HB.out | apply below_alloc | apply pw_below_drewN | apply below_drew1) | exact HB.out)))); have n2_ := Aside0.mk (below_step (by repeat (first | (with_reducible first | exact HB.out | apply below_alloc | apply pw_below_drewN | apply below_drew1) | exact HB.out)) hb); clear HO178; clear HB; have HO178 := n0_; have HO183 := n1_; have HB := n2_; clear n0_ n1_ n2_; (try clear hb); (try clear hb2); (try clear hk); (try clear hi); (try clear ho0); obtain ⟨Ao13, co13, eo13⟩ := Kd.R_slice HO183.out; subst eo13) | ((with_reducible refine gate_callee (f := 33) rfl ?_); refine goesL_ (some 25) rfl rfl Try.func33 (by kernel_rfl) rfl #[.slice Ao13 t181.length co13, .int .i64 a1] rfl (by (try simp only [List.map_toArray, List.map_cons, List.map_nil]); first | done | rfl | (simp only [List.length_drop, List.length_take]; rfl)) ?_; (with_reducible refine (impl_FewestBoth.calls k _ _ t181 a1 t184 t185 _ ?side1 ?side2 A7.out).mono ?_); (case side1 => repeat (first | exact (Kd.R_reads' HO183.out).2.2 | (with_reducible refine Kd.C_alloc ?_ _) | (with_reducible refine Kd.C_drewN ?_ _) | (with_reducible refine Kd.C_drew ?_))); (case side2 => exact (Kd.R_reads' HO183.out).2.1); rintro e w14 ⟨rfl, hb⟩; refine ⟨_, rfl, ?_⟩; have n0_ := Aside0.mk (Kd.R_below (by (with_reducible repeat (first | apply Kd.R_alloc | apply Kd.R_drewN | apply Kd.R_drew)); exact HO178.out) hb); have n1_ := Aside0.mk (Kd.R_below (by (with_reducible repeat (first | apply Kd.R_alloc | apply Kd.R_drewN | apply Kd.R_drew)); exact HO183.out) hb); have n2_ := Aside0.mk (below_step (by repeat (first | (with_reducible first | exact HB.out | apply below_alloc | apply pw_below_drewN | apply below_drew1) | exact HB.out)) hb); clear HO178; clear HO183; clear HB; have HO178 := n0_; have HO183 := n1_; have HB := n2_; clear n0_ n1_ n2_; (try clear hb); (try clear hb2); (try clear hk); (try clear hi)))
    (try simp only [Act.put, List.setIfInBounds_toArray, List.set_cons_zero, List.set_cons_succ])
    go_cut [35] (fun v35 wc => ∃ (kq : Nat) (x35_7 : Bool), v35 = .bool x35_7 ∧ Aside0 (laws_FnExactFewestBoth.j0 kq l0 t181 x35_7 = some r) ∧ Aside0 (kq ≤ k) ∧ Aside0 (Kd.R (Kd.int .i64) 3 wc w.heap.size (fun _ => True) (.slice Ao13 t181.length co13) t181) ∧ Aside0 (Below w.heap.size w wc))
    case first =>
      have H := HC8.out
      clear HC8
      by_cases c15 : t184 = t179
      · rw [if_pos c15] at H
        have c15b0 : (t184 == t179) = true := beq_iff_eq.mpr c15
        have c15b1 : (t184 != t179) = false := bne_eq_false_iff_eq.mpr c15
        clear c15
        (first | rw [c15b0] | (simp only [i64_w, i32_w]; rw [c15b0]) | skip)
        have H' := Aside0.mk H
        clear H
        go_wp2
        go_meet
        case rel => exact ⟨_, ((t185 != t180)), (by first | rfl | (simp; done) | (simp [*]; done)), H', ⟨by first | omega | exact Nat.le_refl _⟩, ⟨by (with_reducible repeat (first | apply Kd.R_alloc | apply Kd.R_drewN | apply Kd.R_drew)); exact Kd.R_mono HO183.out (fun _ hk => trivial)⟩, ⟨by repeat (first | (with_reducible first | exact HB.out | apply below_alloc | apply pw_below_drewN | apply below_drew1) | exact HB.out)⟩⟩
      · rw [if_neg c15] at H
        have c15b0 : (t184 == t179) = false := beq_eq_false_iff_ne.mpr c15
        have c15b1 : (t184 != t179) = true := bne_iff_ne.mpr c15
        (first | rw [c15b0] | (simp only [i64_w, i32_w]; rw [c15b0]) | skip)
        have H' := Aside0.mk H
        clear H
        go_wp2
        go_meet
        case rel => exact ⟨_, (true), (by first | rfl | (simp; done) | (simp [*]; done)), H', ⟨by first | omega | exact Nat.le_refl _⟩, ⟨by (with_reducible repeat (first | apply Kd.R_alloc | apply Kd.R_drewN | apply Kd.R_drew)); exact Kd.R_mono HO183.out (fun _ hk => trivial)⟩, ⟨by repeat (first | (with_reducible first | exact HB.out | apply below_alloc | apply pw_below_drewN | apply below_drew1) | exact HB.out)⟩⟩
    case rest =>
      clear HC8
      try clear c1
      try clear c2
      try clear p2
      try clear c3
      try clear c3b0
      try clear c3b1
      try clear c10
      try clear c15
      try clear c15b0
      try clear c15b1
      obtain ⟨kq, x35_7, rfl, HA, HJ7, HO_7, HB⟩ := hcut
      cases kq with
      | zero => exact absurd HA.out (by simp [laws_FnExactFewestBoth.j0])
      | succ kj7 =>
        have H := HA.out
        clear HA
        simp only [laws_FnExactFewestBoth.j0] at H
        by_cases c16 : x35_7 = true
        · subst c16
          have H1 : (some false) = some r := by rw [if_pos rfl] at H; exact H
          clear H
          have H := H1
          clear H1
          obtain rfl := Option.some.inj H
          go_wp2
          go_ret
          exact ⟨by first | rfl | (simp [errW_none, errW_some] <;> rfl) | (simp [*, errW_none, errW_some] <;> rfl), by repeat (first | (with_reducible first | exact HB.out | apply below_alloc | apply pw_below_drewN | apply below_drew1) | exact HB.out)⟩
        · replace c16 := Bool.eq_false_iff.mpr c16
          subst c16
          have H1 : ((laws_toIntS.f kj7 l0).bind fun t186 => ((laws_eqIntS.f kj7 t181 t186).bind fun t189 => (if t189 = true then (some true) else (some false)))) = some r := by rw [if_neg (show ¬ (false = true) by decide)] at H; exact H
          clear H
          have H := H1
          clear H1
          replace H := Option.bind_eq_some_iff.mp H
          obtain ⟨t186, A170, H⟩ := H
          replace H : ((laws_eqIntS.f kj7 t181 t186).bind fun t189 => (if t189 = true then (some true) else (some false))) = some r := H
          have A17 := Aside0.mk A170
          clear A170
          replace H := Option.bind_eq_some_iff.mp H
          obtain ⟨t189, A180, H⟩ := H
          replace H : (if t189 = true then (some true) else (some false)) = some r := H
          have A18 := Aside0.mk A180
          clear A180
          by_cases c19 : t189 = true
          · subst c19
            have H1 : (some true) = some r := by rw [if_pos rfl] at H; exact H
            clear H
            have H := H1
            clear H1
            obtain rfl := Option.some.inj H
            go_wp2_with (first | ((with_reducible refine gate_callee (f := 20) rfl ?_); refine goesL_ (some 38) rfl rfl Try.func20 (by kernel_rfl) rfl #[.slice A0 l0.length c0] rfl (by (try simp only [List.map_toArray, List.map_cons, List.map_nil]); first | done | rfl | (simp only [List.length_drop, List.length_take]; rfl)) ?_; (with_reducible refine (laws_toIntS.calls kj7 _ _ l0 t186 _ ?side1 ?side2 A17.out).mono ?_); (case side1 => repeat (first | exact (Kd.C_below HR0.out HB.out) | (with_reducible refine Kd.C_alloc ?_ _) | (with_reducible refine Kd.C_drewN ?_ _) | (with_reducible refine Kd.C_drew ?_))); (case side2 => exact HC0.out); rintro e w20 ⟨v187, rfl, ho0, hb⟩; refine ⟨_, rfl, ?_⟩; have n0_ := Aside0.mk (Kd.R_elder' (by (with_reducible repeat (first | apply Kd.R_alloc | apply Kd.R_drewN | apply Kd.R_drew)); exact HO_7.out) (Kd.R_base ho0) hb); have n1_ := Aside0.mk (Kd.R_lower (Kd.R_new' ho0 (Kd.R_lt (by (with_reducible repeat (first | apply Kd.R_alloc | apply Kd.R_drewN | apply Kd.R_drew)); exact HO_7.out))) (below_size (by repeat (first | (with_reducible first | exact HB.out | apply below_alloc | apply pw_below_drewN | apply below_drew1) | exact HB.out)))); have n2_ := Aside0.mk (below_step (by repeat (first | (with_reducible first | exact HB.out | apply below_alloc | apply pw_below_drewN | apply below_drew1) | exact HB.out)) hb); clear HO_7; clear HB; have HO_7 := n0_; have HO188 := n1_; have HB := n2_; clear n0_ n1_ n2_; (try clear hb); (try clear hb2); (try clear hk); (try clear hi); (try clear ho0); obtain ⟨Ao21, co21, eo21⟩ := Kd.R_slice HO188.out; subst eo21) | ((with_reducible refine gate_callee (f := 16) rfl ?_); refine goesL_ (some 39) rfl rfl Try.func16 (by kernel_rfl) rfl #[.slice Ao13 t181.length co13, .slice Ao21 t186.length co21] rfl (by (try simp only [List.map_toArray, List.map_cons, List.map_nil]); first | done | rfl | (simp only [List.length_drop, List.length_take]; rfl)) ?_; (with_reducible refine (laws_eqIntS.calls kj7 _ _ t181 _ _ t186 true _ ?side1 ?side2 ?side3 ?side4 A18.out).mono ?_); (case side1 => repeat (first | exact (Kd.R_reads' HO_7.out).2.2 | (with_reducible refine Kd.C_alloc ?_ _) | (with_reducible refine Kd.C_drewN ?_ _) | (with_reducible refine Kd.C_drew ?_))); (case side2 => exact (Kd.R_reads' HO_7.out).2.1); (case side3 => repeat (first | exact (Kd.R_reads' HO188.out).2.2 | (with_reducible refine Kd.C_alloc ?_ _) | (with_reducible refine Kd.C_drewN ?_ _) | (with_reducible refine Kd.C_drew ?_))); (case side4 => exact (Kd.R_reads' HO188.out).2.1); rintro e w' ⟨rfl, ⟨nd, rfl⟩⟩; refine ⟨_, rfl, ?_⟩))
            go_ret
            exact ⟨by first | rfl | (simp [errW_none, errW_some] <;> rfl) | (simp [*, errW_none, errW_some] <;> rfl), by repeat (first | (with_reducible first | exact HB.out | apply below_alloc | apply pw_below_drewN | apply below_drew1) | exact HB.out)⟩
          · replace c19 := Bool.eq_false_iff.mpr c19
            subst c19
            have H1 : (some false) = some r := by rw [if_neg (show ¬ (false = true) by decide)] at H; exact H
            clear H
            have H := H1
            clear H1
            obtain rfl := Option.some.inj H
            go_wp2_with (first | ((with_reducible refine gate_callee (f := 20) rfl ?_); refine goesL_ (some 38) rfl rfl Try.func20 (by kernel_rfl) rfl #[.slice A0 l0.length c0] rfl (by (try simp only [List.map_toArray, List.map_cons, List.map_nil]); first | done | rfl | (simp only [List.length_drop, List.length_take]; rfl)) ?_; (with_reducible refine (laws_toIntS.calls kj7 _ _ l0 t186 _ ?side1 ?side2 A17.out).mono ?_); (case side1 => repeat (first | exact (Kd.C_below HR0.out HB.out) | (with_reducible refine Kd.C_alloc ?_ _) | (with_reducible refine Kd.C_drewN ?_ _) | (with_reducible refine Kd.C_drew ?_))); (case side2 => exact HC0.out); rintro e w22 ⟨v187, rfl, ho0, hb⟩; refine ⟨_, rfl, ?_⟩; have n0_ := Aside0.mk (Kd.R_elder' (by (with_reducible repeat (first | apply Kd.R_alloc | apply Kd.R_drewN | apply Kd.R_drew)); exact HO_7.out) (Kd.R_base ho0) hb); have n1_ := Aside0.mk (Kd.R_lower (Kd.R_new' ho0 (Kd.R_lt (by (with_reducible repeat (first | apply Kd.R_alloc | apply Kd.R_drewN | apply Kd.R_drew)); exact HO_7.out))) (below_size (by repeat (first | (with_reducible first | exact HB.out | apply below_alloc | apply pw_below_drewN | apply below_drew1) | exact HB.out)))); have n2_ := Aside0.mk (below_step (by repeat (first | (with_reducible first | exact HB.out | apply below_alloc | apply pw_below_drewN | apply below_drew1) | exact HB.out)) hb); clear HO_7; clear HB; have HO_7 := n0_; have HO188 := n1_; have HB := n2_; clear n0_ n1_ n2_; (try clear hb); (try clear hb2); (try clear hk); (try clear hi); (try clear ho0); obtain ⟨Ao23, co23, eo23⟩ := Kd.R_slice HO188.out; subst eo23) | ((with_reducible refine gate_callee (f := 16) rfl ?_); refine goesL_ (some 39) rfl rfl Try.func16 (by kernel_rfl) rfl #[.slice Ao13 t181.length co13, .slice Ao23 t186.length co23] rfl (by (try simp only [List.map_toArray, List.map_cons, List.map_nil]); first | done | rfl | (simp only [List.length_drop, List.length_take]; rfl)) ?_; (with_reducible refine (laws_eqIntS.calls kj7 _ _ t181 _ _ t186 false _ ?side1 ?side2 ?side3 ?side4 A18.out).mono ?_); (case side1 => repeat (first | exact (Kd.R_reads' HO_7.out).2.2 | (with_reducible refine Kd.C_alloc ?_ _) | (with_reducible refine Kd.C_drewN ?_ _) | (with_reducible refine Kd.C_drew ?_))); (case side2 => exact (Kd.R_reads' HO_7.out).2.1); (case side3 => repeat (first | exact (Kd.R_reads' HO188.out).2.2 | (with_reducible refine Kd.C_alloc ?_ _) | (with_reducible refine Kd.C_drewN ?_ _) | (with_reducible refine Kd.C_drew ?_))); (case side4 => exact (Kd.R_reads' HO188.out).2.1); rintro e w' ⟨rfl, ⟨nd, rfl⟩⟩; refine ⟨_, rfl, ?_⟩))
            go_ret
            exact ⟨by first | rfl | (simp [errW_none, errW_some] <;> rfl) | (simp [*, errW_none, errW_some] <;> rfl), by repeat (first | (with_reducible first | exact HB.out | apply below_alloc | apply pw_below_drewN | apply below_drew1) | exact HB.out)⟩

/-- THE ONE PURE STATEMENT of laws_FnExactFewestBoth: yours. -/
def laws_FnExactFewestBoth.Pure : Prop := ∀ (l0 : List Int) (a1 : Int), l0.length ≤ maxLen → l0.length * 8 ≤ 140737488351232 → (∀ x ∈ l0, (Lit.int .i64 x).wf = true) → (Lit.int .i64 a1).wf = true → ∃ k, laws_FnExactFewestBoth.f k l0 a1 = some true
theorem laws_FnExactFewestBoth.walk (P : laws_FnExactFewestBoth.Pure) (a0 : Option Addr) (len0 cap0 : Nat) (z0 : List Int) (a1 : Int) (w : World) (w0 : (a0 = none ∧ len0 = 0 ∧ cap0 = 0 ∧ z0 = []) ∨ ∃ x, a0 = some x ∧ len0 ≤ cap0 ∧ cap0 ≤ maxLen ∧ z0.length = cap0 ∧ (∀ i, i < z0.length → w.cell? (x.add i) = some (.int .i64 (z0.getD i 0))) ∧ ∀ n ∈ z0, (Lit.int .i64 n).wf = true) (y0 : len0 * 8 ≤ 140737488351232) (w1 : (Lit.int .i64 a1).wf = true) :
    Calls Try.prog 10 #[.slice a0 len0 cap0, .int .i64 a1] w fun e w' => e = .returned (.bool true) ∧ Below w.heap.size w w' := by
  obtain ⟨l0, rfl, hr0, hm0, hw0, hc0⟩ := ReadsInt.ofRowC w0
  obtain ⟨k, h⟩ := P l0 a1 hm0 y0 hw0 w1
  refine (laws_FnExactFewestBoth.calls k _ _ l0 a1 true w (Kd.C_of_reads (d := (0 : Int)) (h1 := fun _ => rfl) hr0) hc0 h).mono ?_
  rintro e w' ⟨rfl, hd⟩
  exact ⟨rfl, hd⟩

end Go.Proofs.Ytobcoaafbekhaaa.Sf
