/- Functions of the program and of the reference as Lean functions, and the contracts of their calls: laid by a program of this repo (wip/gen.py), in part by hand. -/
import Derived.Test.YtobcoaafbekhaaaFbx0
import Derived.Test.YtobcoaafbekhaaaFbx4
import Derived.Test.YtobcoaafbekhaaaFbx5
import Derived.Test.YtobcoaafbekhaaaFbx6
import Derived.Lib.SlBytesConst
namespace Go.Proofs.Ytobcoaafbekhaaa.Fb
open Go.RowKit Go.Proofs.YtobcoaafbekhaaaW.PrintWords Go.Proofs.YtobcoaafbekhaaaW.PrintLast Go.Proofs.YtobcoaafbekhaaaW.PrintMore
attribute [local go_sem] max2_int min2_int max_two min_two max_three min_three max_four min_four   -- for this text's walks alone
set_option linter.unusedVariables false
set_option linter.unusedSimpArgs false

/-! ### impl_sides_waysTo: function 48 -/
/-- How many signs of the pieces from piece i on have a value. -/
def impl_sidesOf.waysTo (l : List Int) (i : Nat) (n : Int) : Int := if 0 ≤ n + (l.drop i).sum ∧ n + (l.drop i).sum ≤ 2 * (l.drop i).sum then rd (impl_sidesOf.tabs (l.drop i)).1 (n + (l.drop i).sum) else 0
theorem impl_sidesOf.goodp {l : List Int} (h : impl_sidesOf.good l = true) : l.length ≤ 12 ∧ ∀ x ∈ l, 1 ≤ x ∧ x ≤ 10000 := by
  unfold impl_sidesOf.good at h
  rw [Bool.and_eq_true, decide_eq_true_eq, List.all_eq_true] at h
  exact ⟨h.1, fun x hx => of_decide_eq_true (h.2 x hx)⟩
theorem impl_sidesOf.Sides.cells {W : World} {l0 : List Int} {v : Value} (h : impl_sidesOf.Sides W l0 v) (i : Nat) (hi : i ≤ l0.length) :
    ∃ A c Bw Bf Bt g1 g2, v = .agg #[.slice A l0.length c, .slice (some ⟨Bw, 0, none⟩) (l0.length + 1) (l0.length + 1), .slice (some ⟨Bf, 0, none⟩) (l0.length + 1) (l0.length + 1), .slice (some ⟨Bt, 0, none⟩) (l0.length + 1) (l0.length + 1)] ∧
      W.cell? ⟨Bt, i, none⟩ = some (.int .i64 (l0.drop i).sum) ∧ W.cell? ⟨Bw, i, none⟩ = some (.slice (some ⟨g1, 0, none⟩) (impl_sidesOf.tabs (l0.drop i)).1.length (impl_sidesOf.tabs (l0.drop i)).1.length) ∧ W.cell? ⟨Bf, i, none⟩ = some (.slice (some ⟨g2, 0, none⟩) (impl_sidesOf.tabs (l0.drop i)).2.length (impl_sidesOf.tabs (l0.drop i)).2.length) ∧
      (∀ k, k < (impl_sidesOf.tabs (l0.drop i)).1.length → W.cell? ⟨g1, k, none⟩ = some (.int .i64 (rd (impl_sidesOf.tabs (l0.drop i)).1 (k : Int)))) ∧ (∀ k, k < (impl_sidesOf.tabs (l0.drop i)).2.length → W.cell? ⟨g2, k, none⟩ = some (.int .i64 (rd (impl_sidesOf.tabs (l0.drop i)).2 (k : Int)))) ∧
      (Bt < W.heap.size ∧ Bw < W.heap.size ∧ Bf < W.heap.size) ∧ g1 < W.heap.size ∧ g2 < W.heap.size := by
  obtain ⟨A, c, Bw, Bf, Bt, M, N, cw, cf, ts, e, h1, h2, h3, h4, h5, h6⟩ := h
  obtain ⟨⟨g1, k1, a1, b1⟩, ⟨g2, k2, a2, b2⟩, et⟩ := h6 i (Nat.zero_le _) hi
  refine ⟨A, c, Bw, Bf, Bt, g1, g2, e, ?_, ?_, ?_, fun k hk => (impl_sidesOf.row_cell b1 k hk).1, fun k hk => (impl_sidesOf.row_cell b2 k hk).1, ⟨(Array.getElem?_eq_some_iff.1 h3).1, (Array.getElem?_eq_some_iff.1 h1).1, (Array.getElem?_eq_some_iff.1 h2).1⟩, (Array.getElem?_eq_some_iff.1 b1).1, (Array.getElem?_eq_some_iff.1 b2).1⟩
  · rw [cell_of_row W _ _ _ _ _ h3, ← et]; simp [nums, show i < ts.length by omega]
  · rw [cell_of_row W _ _ _ _ _ h1, ← a1]; simp [show i < cw.length by omega]
  · rw [cell_of_row W _ _ _ _ _ h2, ← a2]; simp [show i < cf.length by omega]
set_option maxHeartbeats 8000000 in
set_option maxRecDepth 100000 in
theorem impl_sidesOf.waysTo_calls (l0 : List Int) (hg : impl_sidesOf.good l0 = true) (i : Nat) (hi : i ≤ l0.length) (n : Int) (hn : -3000000 ≤ n ∧ n ≤ 3000000) (v : Value) (w : World) (hS : impl_sidesOf.Sides w l0 v) :
    Calls Try.prog 48 #[v, .int .i64 (i : Int), .int .i64 n] w fun e w' => e = .returned (.int .i64 (impl_sidesOf.waysTo l0 i n)) ∧ Below w.heap.size w w' := by
  obtain ⟨hl, hg2⟩ := impl_sidesOf.goodp hg
  obtain ⟨A, c, Bw, Bf, Bt, g1, g2, rfl, hT, hW, _, c1, _, ⟨s1, s2, _⟩, s4, _⟩ := hS.cells i hi
  have hlen := (impl_sidesOf.tabs_len (l0.drop i) (fun x hx => hg2 x (List.mem_of_mem_drop hx))).1
  have hsum := impl_sidesOf.sum_le (l0.drop i) (fun x hx => hg2 x (List.mem_of_mem_drop hx))
  rw [List.length_drop] at hsum
  have HR := Aside0.mk (show impl_sidesOf.waysTo l0 i n = _ from rfl)
  have HX := Aside0.mk (show ∀ k : Nat, k < (impl_sidesOf.tabs (l0.drop i)).1.length → _ from c1)
  obtain ⟨r, hr⟩ : ∃ r, impl_sidesOf.waysTo l0 i n = r := ⟨_, rfl⟩
  have HRR := Aside0.mk hr
  unfold impl_sidesOf.waysTo at hr
  obtain ⟨t, ht⟩ : ∃ t, (l0.drop i).sum = t := ⟨_, rfl⟩
  rw [ht] at hT hlen hsum hr
  obtain ⟨m, hm⟩ : ∃ m : Nat, (m : Int) = 2 * t + 1 := ⟨(2 * t + 1).toNat, by omega⟩
  rw [show (2 * t + 1).toNat = m by omega] at hlen
  rw [hlen] at hW c1
  have HMM := Aside0.mk hm
  have HB := Aside0.mk (below_alloc (Below.refl w.heap.size w) (.cells #[.slice A l0.length c, .slice (some ⟨Bw, 0, none⟩) (l0.length + 1) (l0.length + 1), .slice (some ⟨Bf, 0, none⟩) (l0.length + 1) (l0.length + 1), .slice (some ⟨Bt, 0, none⟩) (l0.length + 1) (l0.length + 1)] 47))
  have htb : 0 ≤ t ∧ t ≤ 120000 := by omega
  have hib : (0 : Int) ≤ i ∧ (i : Int) < (l0.length : Int) + 1 := by omega
  rw [HRR.out]
  clear HX HR HRR hS hsum hg hg2 hm ht
  by_cases hin : 0 ≤ n + t ∧ n + t ≤ 2 * t
  · rw [if_pos hin] at hr
    have hx := c1 (n + t).toNat (by have := HMM.out; omega)
    rw [show (((n + t).toNat : Nat) : Int) = n + t by omega, hr] at hx
    have hib2 : 0 ≤ n + t ∧ n + t < (m : Int) := by have := HMM.out; omega
    have hK := fun W => impl_within.calls (n + t) 0 (2 * t) true W (by unfold impl_within.f; rw [if_pos hin.1, decide_eq_true hin.2])
    have HK := Aside0.mk hK
    clear hK hin c1 hr hlen
    go_enter Try.func48, Try.ntmps48
    go_wp2_with (go_at_call 42; refine (HK.out _).mono ?_; rintro e w1 ⟨rfl, q, rfl⟩)
    go_ret
    exact ⟨rfl, pw_below_drewN HB.out _⟩
  · rw [if_neg hin] at hr
    have hK := fun W => impl_within.calls (n + t) 0 (2 * t) false W (by
      unfold impl_within.f
      by_cases h0 : 0 ≤ n + t
      · rw [if_pos h0, decide_eq_false (fun h => hin ⟨h0, h⟩)]
      · rw [if_neg h0])
    have HK := Aside0.mk hK
    obtain rfl : 0 = r := hr
    clear hK hin c1 hlen
    go_enter Try.func48, Try.ntmps48
    go_wp2_with (go_at_call 42; refine (HK.out _).mono ?_; rintro e w1 ⟨rfl, q, rfl⟩)
    go_ret
    exact ⟨rfl, pw_below_drewN HB.out _⟩
theorem impl_sidesOf.calls1 (A0 : Option Addr) (c0 : Nat) (l0 : List Int) (hg : impl_sidesOf.good l0 = true) (w : World) (hr0 : Kd.C (Kd.int .i64) w A0 l0.length l0) (hc0 : l0.length ≤ c0) :
    Calls Try.prog 47 #[.slice A0 l0.length c0] w fun e w' => ∃ v, e = .returned v ∧ impl_sidesOf.Sides w' l0 v ∧ Below w.heap.size w w' :=
  impl_sidesOf.calls0 A0 c0 l0 w hr0 hc0 (impl_sidesOf.goodp hg).1 (impl_sidesOf.goodp hg).2

/-! ### impl_worth: function 62 -/
def impl_worth.f (a0 : Int) (a1 : Int) : Option (Int) := if a1 = 43 then (some a0) else (if a1 = 45 then (some (wrap64 (-a0))) else (some 0))
set_option maxHeartbeats 8000000 in
set_option maxRecDepth 100000 in
theorem impl_worth.calls (a0 : Int) (a1 : Int) (r : Int) (w : World) (h : impl_worth.f a0 a1 = some r) :
    Calls Try.prog 62 #[.int .i64 a0, .int .u8 a1] w fun e w' => e = .returned (.int .i64 r) ∧ Drawn0 w w' := by
  have H : (if a1 = 43 then (some a0) else (if a1 = 45 then (some (wrap64 (-a0))) else (some 0))) = some r := h
  clear h
  by_cases c3 : a1 = 43
  · rw [if_pos c3] at H
    have c3b0 : (a1 == 43) = true := beq_iff_eq.mpr c3
    have c3b1 : (a1 != 43) = false := bne_eq_false_iff_eq.mpr c3
    clear c3
    obtain rfl := Option.some.inj H
    go_enter Try.func62, Try.ntmps62
    go_wp2
    go_ret
    exact ⟨by first | rfl | (simp; done) | (simp [*]; done), by repeat (first | exact Drawn0.refl _ | apply Drawn0.step)⟩
  · rw [if_neg c3] at H
    have c3b0 : (a1 == 43) = false := beq_eq_false_iff_ne.mpr c3
    have c3b1 : (a1 != 43) = true := bne_iff_ne.mpr c3
    by_cases c4 : a1 = 45
    · rw [if_pos c4] at H
      have c4b0 : (a1 == 45) = true := beq_iff_eq.mpr c4
      have c4b1 : (a1 != 45) = false := bne_eq_false_iff_eq.mpr c4
      clear c4
      obtain rfl := Option.some.inj H
      go_enter Try.func62, Try.ntmps62
      go_wp2
      go_ret
      exact ⟨by first | rfl | (simp; done) | (simp [*]; done), by repeat (first | exact Drawn0.refl _ | apply Drawn0.step)⟩
    · rw [if_neg c4] at H
      have c4b0 : (a1 == 45) = false := beq_eq_false_iff_ne.mpr c4
      have c4b1 : (a1 != 45) = true := bne_iff_ne.mpr c4
      obtain rfl := Option.some.inj H
      go_enter Try.func62, Try.ntmps62
      go_wp2
      go_ret
      exact ⟨by first | rfl | (simp; done) | (simp [*]; done), by repeat (first | exact Drawn0.refl _ | apply Drawn0.step)⟩

/-! ### impl_FirstBoth: function 37 -/
def impl_FirstBoth.ways (l : List Int) (i n : Int) : Option Int := if 0 ≤ i ∧ i ≤ (l.length : Int) ∧ -3000000 ≤ n ∧ n ≤ 3000000 then some (impl_sidesOf.waysTo l i.toNat n) else none
mutual
def impl_FirstBoth.l0 : Nat → Int → List Int → List Int → Int → Int → Option (ByteArray × Bool)
  | 0, _, _, _, _, _ => none
  | k + 1, x1, x7, x24, x25, x26 => if x26 < x25 then (if 0 ≤ x26 then (if x26 < (x24.length : Int) then (impl_FirstBoth.l1 k x1 x7 x26 (rd x24 x26) x24 x25 x26 ([43, 45, 48] : List Int) 3 0) else (none)) else (none)) else (some (strOfNums x7, true))
def impl_FirstBoth.l1 : Nat → Int → List Int → Int → Int → List Int → Int → Int → List Int → Int → Int → Option (ByteArray × Bool)
  | 0, _, _, _, _, _, _, _, _, _, _ => none
  | k + 1, x1, x7, x8, x9, x24, x25, x26, x32, x33, x34 => if x34 < x33 then (if 0 ≤ x34 then ((impl_worth.f x9 (rd x32 x34)).bind fun t177 => ((impl_FirstBoth.ways x24 (wrap64 (x8 + 1)) (wrap64 (x1 - t177))).bind fun t178 => (if t178 > 0 then (if x7.length < 140737488355328 then (impl_FirstBoth.l0 k (wrap64 (x1 - t177)) (x7 ++ [rd x32 x34]) x24 x25 (wrap64 (x26 + 1))) else (none)) else (impl_FirstBoth.l1 k x1 x7 x8 x9 x24 x25 x26 x32 x33 (wrap64 (x34 + 1)))))) else (none)) else (impl_FirstBoth.l0 k x1 x7 x24 x25 (wrap64 (x26 + 1)))
end
def impl_FirstBoth.f (k : Nat) (l0 : List Int) (a1 : Int) : Option (ByteArray × Bool) := (impl_isBoth.f k l0 a1).bind fun t => if t = true then (if impl_sidesOf.good l0 = true then ((impl_FirstBoth.ways l0 0 a1).bind fun x => (if x = 0 then some ((⟨#[]⟩ : ByteArray), false) else impl_FirstBoth.l0 k a1 ([] : List Int) l0 (l0.length : Int) 0)) else none) else some ((⟨#[]⟩ : ByteArray), false)
theorem impl_FirstBoth.mono_l : ∀ k, (∀ y0 y1 y2 y3 y4, LeO (impl_FirstBoth.l0 k y0 y1 y2 y3 y4) (impl_FirstBoth.l0 (k + 1) y0 y1 y2 y3 y4)) ∧ (∀ y0 y1 y2 y3 y4 y5 y6 y7 y8 y9, LeO (impl_FirstBoth.l1 k y0 y1 y2 y3 y4 y5 y6 y7 y8 y9) (impl_FirstBoth.l1 (k + 1) y0 y1 y2 y3 y4 y5 y6 y7 y8 y9))
  | 0 => ⟨fun _ _ _ _ _ r h => by simp [impl_FirstBoth.l0] at h, fun _ _ _ _ _ _ _ _ _ _ r h => by simp [impl_FirstBoth.l1] at h⟩
  | k + 1 => by
    obtain ⟨ih0, ih1⟩ := impl_FirstBoth.mono_l k
    refine ⟨?_, ?_⟩
    · intro y0 y1 y2 y3 y4
      unfold impl_FirstBoth.l0
      repeat' first
      | (with_reducible exact ih0 _ _ _ _ _)
      | (with_reducible exact ih1 _ _ _ _ _ _ _ _ _ _)
      | (with_reducible exact LeO.refl _)
      | (with_reducible exact LeO.none _)
      | (with_reducible refine LeO.ite ?_ ?_)
      | (with_reducible refine LeO.bind ?_ (fun _ => ?_))
    · intro y0 y1 y2 y3 y4 y5 y6 y7 y8 y9
      unfold impl_FirstBoth.l1
      repeat' first
      | (with_reducible exact ih0 _ _ _ _ _)
      | (with_reducible exact ih1 _ _ _ _ _ _ _ _ _ _)
      | (with_reducible exact LeO.refl _)
      | (with_reducible exact LeO.none _)
      | (with_reducible refine LeO.ite ?_ ?_)
      | (with_reducible refine LeO.bind ?_ (fun _ => ?_))
theorem impl_FirstBoth.mono : ∀ a0 a1 k, LeO (impl_FirstBoth.f k a0 a1) (impl_FirstBoth.f (k + 1) a0 a1) := by
  intro a0 a1 k
  obtain ⟨ih0, ih1⟩ := impl_FirstBoth.mono_l k
  unfold impl_FirstBoth.f
  exact LeO.bind (impl_isBoth.mono _ _ _) (fun _ => LeO.ite (LeO.ite (LeO.bind (LeO.refl _) (fun _ => LeO.ite (LeO.refl _) (ih0 _ _ _ _ _))) (LeO.refl _)) (LeO.refl _))
theorem impl_FirstBoth.infoB : (Try.prog.info? 5).map (fun i => (i.zero, i.size, i.bytes)) = some (some (.int .u8 0), 1, 1) := by kernel_rfl
theorem impl_FirstBoth.conv (W : World) : (convert 53 53 (.slice (some ⟨W.heap.size, 0, none⟩) 3 3)).run Try.prog (W.alloc (.cells #[.int .u8 43, .int .u8 45, .int .u8 48] 5)) = .ok (.slice (some ⟨W.heap.size, 0, none⟩) 3 3) (W.alloc (.cells #[.int .u8 43, .int .u8 45, .int .u8 48] 5 (3, 4))) :=
  Go.Lib.run_convert_bytes_const W 53 5 #[.int .u8 43, .int .u8 45, .int .u8 48] 3 3 Try.underlying53 Try.underlying5
theorem impl_FirstBoth.sign_cell {W : World} {gs : Nat} (h : W.heap[gs]? = some (.cells #[.int .u8 43, .int .u8 45, .int .u8 48] 5 (3, 4))) (i : Int) (h0 : 0 ≤ i) (h1 : i < 3) : W.cell? ⟨gs, i.toNat, none⟩ = some (.int .u8 (rd [43, 45, 48] i)) := by
  rw [cell_of_row W _ _ _ _ _ h]
  obtain rfl | rfl | rfl : i = 0 ∨ i = 1 ∨ i = 2 := by omega
  all_goals rfl
theorem impl_FirstBoth.ways_calls (l0 : List Int) (hg : impl_sidesOf.good l0 = true) (i n r : Int) (h : impl_FirstBoth.ways l0 i n = some r) (v : Value) (w : World) (hS : impl_sidesOf.Sides w l0 v) :
    Calls Try.prog 48 #[v, .int .i64 i, .int .i64 n] w fun e w' => e = .returned (.int .i64 r) ∧ Below w.heap.size w w' := by
  unfold impl_FirstBoth.ways at h
  have hc : 0 ≤ i ∧ i ≤ (l0.length : Int) ∧ -3000000 ≤ n ∧ n ≤ 3000000 := by
    apply Classical.byContradiction; intro hn; rw [if_neg hn] at h; cases h
  rw [if_pos hc] at h
  have := impl_sidesOf.waysTo_calls l0 hg i.toNat (by omega) n hc.2.2 v w hS
  rw [Option.some.inj h, show ((i.toNat : Nat) : Int) = i by omega] at this
  exact this
set_option maxHeartbeats 8000000 in
set_option maxRecDepth 100000 in
theorem impl_FirstBoth.calls (k : Nat) (A0 : Option Addr) (c0 : Nat) (l0 : List Int) (a1 : Int) (r1 : ByteArray) (r2 : Bool) (w : World) (hr0 : Kd.C (Kd.int .i64) w A0 l0.length l0) (hc0 : l0.length ≤ c0) (h : impl_FirstBoth.f k l0 a1 = some (r1, r2)) :
    Calls Try.prog 37 #[.slice A0 l0.length c0, .int .i64 a1] w fun e w' => e = .returned (.tuple #[.string r1, .bool r2]) ∧ Below w.heap.size w w' := by
  have hu47 := Try.underlying47
  obtain ⟨t, h1, h2⟩ := Option.bind_eq_some_iff.1 h
  clear h
  have HI := Aside0.mk (fun W (hb : Below w.heap.size w W) => impl_isBoth.calls k A0 c0 l0 a1 t W (Kd.C_below hr0 hb) hc0 h1)
  clear h1
  cases t with
  | false =>
    obtain ⟨rfl, rfl⟩ : ⟨#[]⟩ = r1 ∧ false = r2 := by simpa using (if_neg (by simp)).symm.trans h2
    clear h2 hr0 hc0
    go_enter Try.func37, Try.ntmps37
    go_wp2_with (go_at_call 46; refine (HI.out _ (Below.refl _ _)).mono ?_; rintro e w1 ⟨rfl, hb⟩)
    go_ret2
    exact ⟨rfl, hb⟩
  | true =>
    rw [if_pos rfl] at h2
    have hg : impl_sidesOf.good l0 = true := by
      apply Classical.byContradiction; intro hn; rw [if_neg hn] at h2; cases h2
    rw [if_pos hg] at h2
    obtain ⟨x, hx, h3⟩ := Option.bind_eq_some_iff.1 h2
    clear h2
    have HR0 := Aside0.mk hr0
    have HX := Aside0.mk hx
    have H3 := Aside0.mk h3
    clear h3 hx
    have HS := Aside0.mk (fun W (hb : Below w.heap.size w W) => (impl_sidesOf.calls1 A0 c0 l0 hg W (Kd.C_below hr0 hb) hc0))
    have HW := Aside0.mk (fun (i n r : Int) (hr : impl_FirstBoth.ways l0 i n = some r) v W (hs : impl_sidesOf.Sides W l0 v) => impl_FirstBoth.ways_calls l0 hg i n r hr v W hs)
    have HF := Aside0.mk (fun (W : World) (v : Value) (hs : impl_sidesOf.Sides W l0 v) => hs.cells 0 (Nat.zero_le _))
    have HLL := Aside0.mk (impl_sidesOf.goodp hg).1
    have HC0 := Aside0.mk hc0
    clear hr0 hg hc0
    by_cases hx0 : x = 0
    · subst hx0
      have h3 := H3.out
      rw [if_pos rfl] at h3
      obtain ⟨rfl, rfl⟩ : ⟨#[]⟩ = r1 ∧ false = r2 := by simpa using h3
      clear h3 H3
      go_enter Try.func37, Try.ntmps37
      go_wp2_with (first | (go_at_call 46; refine (HI.out _ (Below.refl _ _)).mono ?_; rintro e w1 ⟨rfl, hb⟩; have HB := Aside0.mk hb; clear hb) | (go_at_call 47; refine (HS.out _ HB.out).mono ?_; rintro e w2 ⟨v, rfl, hs, hb⟩; have HB2 := Aside0.mk (below_step HB.out hb); have HR2 := Aside0.mk (Kd.C_below HR0.out HB2.out); obtain ⟨A, c, Bw, Bf, Bt, g1, g2, rfl, _⟩ := HF.out _ _ hs; have HS2 := Aside0.mk hs; clear hb hs) | ((with_reducible refine gate_dst (N := 19) rfl ?_); refine Kd.R_lit (Kd.int .u8) _ 5 ?hg (N := 19) ?hd (xs := ([] : List Int)) (inner := []) (ok := fun _ => True) (okp := fun _ => True) ?hr ?hp (fun _ hk => hk) trivial (Below.refl _ _) (Nat.le_refl _) (by simp) ?_; (case hd => rfl); (case hg => rfl); (case hr => first | (go_simp; done) | (go_simp; rfl)); (case hp => exact (Reps.none _ _)); intro v168 w3 ho hb hg_ hnew_; clear hg_ hnew_ ho; have HB3 := Aside0.mk hb; clear hb) | (go_at_call 48; refine (HW.out _ _ _ HX.out _ _ (HS2.out.move (below_alloc HB3.out _))).mono ?_; rintro e w4 ⟨rfl, hb⟩; have HB4 := Aside0.mk (below_step HB2.out (below_step (below_alloc HB3.out _) hb)); clear hb))
      go_ret2
      exact ⟨rfl, HB4.out⟩
    · have h3 := H3.out
      rw [if_neg hx0] at h3
      have HA := Aside0.mk h3
      have hxb : (x == 0) = false := by simp [hx0]
      clear h3 H3 hx0
      obtain ⟨y0, hy0⟩ : ∃ y_ : List Int, y_ = (([] : List Int)) := ⟨_, rfl⟩
      rw [← hy0] at HA
      have Ny0 := Aside0.mk hy0
      clear hy0
      go_enter Try.func37, Try.ntmps37
      go_wp2_with (first | (go_at_call 46; refine (HI.out _ (Below.refl _ _)).mono ?_; rintro e w1 ⟨rfl, hb⟩; have HB := Aside0.mk hb; clear hb) | (go_at_call 47; refine (HS.out _ HB.out).mono ?_; rintro e w2 ⟨v, rfl, hs, hb⟩; have HB2 := Aside0.mk (below_step HB.out hb); have HR2 := Aside0.mk (Kd.C_below HR0.out HB2.out); obtain ⟨A, c, Bw, Bf, Bt, g1, g2, rfl, _⟩ := HF.out _ _ hs; have HS2 := Aside0.mk hs; clear hb hs HB) | ((with_reducible refine gate_dst (N := 19) rfl ?_); refine Kd.R_lit (Kd.int .u8) _ 5 ?hg (N := 19) ?hd (xs := ([] : List Int)) (inner := []) (ok := fun _ => True) (okp := fun _ => True) ?hr ?hp (fun _ hk => hk) trivial (Below.refl _ _) (Nat.le_refl _) (by simp) ?_; (case hd => rfl); (case hg => rfl); (case hr => first | (go_simp; done) | (go_simp; rfl)); (case hp => exact (Reps.none _ _)); intro v168 w3 ho hb hg_ hnew_; clear hg_ hnew_; rw [← Ny0.out] at ho; have HO := Aside0.mk ho; have HB3 := Aside0.mk hb; clear ho hb) | (go_at_call 48; refine (HW.out _ _ _ HX.out _ _ (HS2.out.move (below_alloc HB3.out _))).mono ?_; rintro e w4 ⟨rfl, hb⟩; have n0_ := Aside0.mk (below_step (below_alloc HB3.out _) hb); have n1_ := Aside0.mk (Kd.R_below (Kd.R_alloc HO.out _) hb); have BK := Aside0.mk (blk_below (blk_new w3 _) hb); have GB := Aside0.mk (below_size HB3.out); clear HO HB3 hb; have HO := n1_; have HB := n0_; clear n0_ n1_))
      go_loopg [1, 7, 26] k (fun kq v1 v7 v26 w' => ∃ (x1_1 : Int) (x7_1 : List Int) (x26_1 : Int), v1 = .int .i64 x1_1 ∧ v26 = .int .i64 x26_1 ∧ Aside0 (impl_FirstBoth.l0 kq x1_1 x7_1 l0 (l0.length : Int) x26_1 = some (r1, r2)) ∧ Aside0 (kq ≤ k) ∧ Aside0 (Kd.R (Kd.int .u8) 5 w' w2.heap.size (fun _ => True) v7 x7_1) ∧ Aside0 (w'.heap[w3.heap.size]? = some (.cells #[.slice A l0.length c, .slice (some ⟨Bw, 0, none⟩) (l0.length + 1) (l0.length + 1), .slice (some ⟨Bf, 0, none⟩) (l0.length + 1) (l0.length + 1), .slice (some ⟨Bt, 0, none⟩) (l0.length + 1) (l0.length + 1)] 47 (0, 0))) ∧ Aside0 (Below w2.heap.size w2 w'))
      case atStart => exact ⟨a1, y0, 0, rfl, rfl, HA, ⟨Nat.le_refl _⟩, HO, BK, HB⟩
      case round =>
        clear HA HO BK HB
        obtain ⟨x1_1, x7_1, x26_1, rfl, rfl, HA, HK1, HO, BK, HB⟩ := hrel
        cases gk with
        | zero => exact absurd HA.out (by simp [impl_FirstBoth.l0])
        | succ k1 =>
          have H := HA.out
          clear HA
          simp only [impl_FirstBoth.l0] at H
          by_cases c30 : x26_1 < (l0.length : Int)
          · rw [if_pos c30] at H
            have c30b0 : decide (x26_1 < (l0.length : Int)) = true := decide_eq_true c30
            by_cases c31 : 0 ≤ x26_1
            · rw [if_pos c31] at H
              rw [if_pos c30] at H
              have p172 := c31
              have q172 := c30
              clear c30 c31
              obtain ⟨y173, hy173⟩ : ∃ y_ : List Int, y_ = (([43, 45, 48] : List Int)) := ⟨_, rfl⟩
              rw [← hy173] at H
              have Ny173 := Aside0.mk hy173
              have H' := Aside0.mk H
              clear H hy173
              obtain ⟨ad172, e172, hx172_0⟩ := Kd.at_int HR2.out x26_1 p172 q172
              cases e172
              replace hx172_0 := (HB.out.cell (World.block_lt_of_cell? w2 _ hx172_0)).trans hx172_0
              replace p172 := eq_true p172
              replace q172 := eq_true q172
              have hcv := fun (W : World) => impl_FirstBoth.conv W
              go_wp2_with fail
              have HG := Aside0.mk (blk_new wr (.cells #[.int .u8 43, .int .u8 45, .int .u8 48] 5 (3, 4)))
              have HO_7 := Aside0.mk (Kd.R_alloc (Kd.R_mono (ok' := fun k_ => k_ ≠ wr.heap.size) (Kd.R_bound HO.out) (fun k_ hk => by have := hk.2.2.1; omega)) (.cells #[.int .u8 43, .int .u8 45, .int .u8 48] 5 (3, 4)))
              clear hcv HO
              generalize wr.heap.size = gs at HO_7 HG ⊢
              go_loopg [1, 7, 34] k1 (fun kq v1 v7 v34 w' => ∃ (x1_2 : Int) (x7_2 : List Int) (x34_2 : Int), v1 = .int .i64 x1_2 ∧ v34 = .int .i64 x34_2 ∧ Aside0 (impl_FirstBoth.l1 kq x1_2 x7_2 x26_1 (rd l0 x26_1) l0 (l0.length : Int) x26_1 y173 3 x34_2 = some (r1, r2)) ∧ Aside0 (kq ≤ k1) ∧ Aside0 (Kd.R (Kd.int .u8) 5 w' w2.heap.size (fun k_ => k_ ≠ gs) v7 x7_2) ∧ Aside0 (w'.heap[gs]? = some (.cells #[.int .u8 43, .int .u8 45, .int .u8 48] 5 (3, 4))) ∧ Aside0 (w'.heap[w3.heap.size]? = some (.cells #[.slice A l0.length c, .slice (some ⟨Bw, 0, none⟩) (l0.length + 1) (l0.length + 1), .slice (some ⟨Bf, 0, none⟩) (l0.length + 1) (l0.length + 1), .slice (some ⟨Bt, 0, none⟩) (l0.length + 1) (l0.length + 1)] 47 (0, 0))) ∧ Aside0 (Below w2.heap.size w2 w'))
              case atStart => exact ⟨x1_1, x7_1, 0, rfl, rfl, H', ⟨Nat.le_refl _⟩, HO_7, HG, ⟨by (with_reducible repeat (first | refine blk_drewN ?_ _ | refine blk_drew ?_ | refine blk_alloc ?_ _)); exact BK.out⟩, ⟨(by repeat (first | (with_reducible first | exact HB.out | apply below_alloc | apply pw_below_drewN | apply below_drew1) | exact HB.out))⟩⟩
              case round =>
                clear H' HO_7 HG BK HB
                try clear hx172_0
                try clear p172
                try clear q172
                obtain ⟨x1_2, x7_2, x34_2, rfl, rfl, HA, HK2, HO_7, HG, BK, HB⟩ := hrel
                cases gk with
                | zero => exact absurd HA.out (by simp [impl_FirstBoth.l1])
                | succ k2 =>
                  have H := HA.out
                  clear HA
                  simp only [impl_FirstBoth.l1] at H
                  by_cases c36 : x34_2 < 3
                  · rw [if_pos c36] at H
                    have c36b0 : decide (x34_2 < 3) = true := decide_eq_true c36
                    by_cases c37 : 0 ≤ x34_2
                    · rw [if_pos c37] at H
                      have p176 := c37
                      have q176 := c36
                      clear c36 c37
                      obtain ⟨t177, A390, H⟩ := Option.bind_eq_some_iff.mp H
                      have A39 := Aside0.mk A390
                      clear A390
                      obtain ⟨t178, A400, H⟩ := Option.bind_eq_some_iff.mp H
                      have A40 := Aside0.mk A400
                      clear A400
                      have hx176_0 := impl_FirstBoth.sign_cell HG.out x34_2 p176 q176
                      rw [← Ny173.out] at hx176_0
                      replace p176 := eq_true p176
                      replace q176 := eq_true q176
                      have hcz_0 : wr.cell? ⟨w3.heap.size, 0, none⟩ = some (.slice A l0.length c) := (blk_cell BK.out 0).trans rfl
                      have hcz_1 : wr.cell? ⟨w3.heap.size, 1, none⟩ = some (.slice (some ⟨Bw, 0, none⟩) (l0.length + 1) (l0.length + 1)) := (blk_cell BK.out 1).trans rfl
                      have hcz_2 : wr.cell? ⟨w3.heap.size, 2, none⟩ = some (.slice (some ⟨Bf, 0, none⟩) (l0.length + 1) (l0.length + 1)) := (blk_cell BK.out 2).trans rfl
                      have hcz_3 : wr.cell? ⟨w3.heap.size, 3, none⟩ = some (.slice (some ⟨Bt, 0, none⟩) (l0.length + 1) (l0.length + 1)) := (blk_cell BK.out 3).trans rfl
                      have hfz_0 := blk_frozen BK.out 0
                      have hfz_1 := blk_frozen BK.out 1
                      have hfz_2 := blk_frozen BK.out 2
                      have hfz_3 := blk_frozen BK.out 3
                      by_cases c41 : t178 > 0
                      · rw [if_pos c41] at H
                        have c41b0 : decide (0 < t178) = true := decide_eq_true c41
                        clear c41
                        by_cases c42 : x7_2.length < 140737488355328
                        · rw [if_pos c42] at H
                          have LMc42 := Aside0.mk c42
                          clear c42
                          obtain ⟨y179, hy179⟩ : ∃ y_ : List Int, y_ = (x7_2 ++ [rd y173 x34_2]) := ⟨_, rfl⟩
                          rw [← hy179] at H
                          have Ny179 := Aside0.mk hy179
                          clear hy179
                          have H' := Aside0.mk H
                          clear H
                          go_wp2_with (first | (go_at_call 62; (with_reducible refine (impl_worth.calls (rd l0 x26_1) (rd y173 x34_2) t177 _ A39.out).mono ?_); rintro e w' ⟨rfl, ⟨nd, rfl⟩⟩) | (go_at_call 48; refine (HW.out _ _ _ A40.out _ _ (HS2.out.move (by repeat (first | (with_reducible first | exact HB.out | apply below_alloc | apply pw_below_drewN | apply below_drew1) | exact HB.out)))).mono ?_; rintro e w44 ⟨rfl, hb⟩; have n0_ := Aside0.mk (Kd.R_below (by (with_reducible repeat (first | apply Kd.R_alloc | apply Kd.R_drewN | apply Kd.R_drew)); exact HO_7.out) hb); have n1_ := Aside0.mk (blk_below (g := gs) (by (with_reducible repeat (first | refine blk_drewN ?_ _ | refine blk_drew ?_ | refine blk_alloc ?_ _)); exact HG.out) hb); have n6_ := Aside0.mk (blk_below (g := w3.heap.size) (by (with_reducible repeat (first | refine blk_drewN ?_ _ | refine blk_drew ?_ | refine blk_alloc ?_ _)); exact BK.out) hb); have n7_ := Aside0.mk (below_step (by repeat (first | (with_reducible first | exact HB.out | apply below_alloc | apply pw_below_drewN | apply below_drew1) | exact HB.out)) hb); clear HO_7 HG BK HB hb; have HO_7 := n0_; have HG := n1_; have BK := n6_; have HB := n7_; clear n0_ n1_ n6_ n7_) | ((with_reducible refine gate_builtin (b := .append) (xs := #[.tmp 49, .tmp 51]) rfl ?_); at_builtin; refine Kd.R_append (Kd.int .u8) (w0 := w2) w2.heap.size rfl (.tmp 49) (.tmp 51) 53 5 (.int .u8 0) 1 rfl Try.underlying53 impl_FirstBoth.infoB rfl (by decide) (by omega) u7 x7_2 (rd y173 x34_2) [.int .u8 (rd y173 x34_2)] (fun k_ => k_ ≠ gs) (fun _ => False) rfl rfl ?aP (fun _ hk => hk.elim) ?aF ?aO ?aB ?aS ?aL ?_; (case aP => exact rfl); (case aB => exact (by repeat (first | (with_reducible first | exact HB.out | apply below_alloc | apply pw_below_drewN | apply below_drew1) | exact HB.out))); (case aF => exact (fun k_ hk => by have := blk_lt (show _ = some _ by (with_reducible repeat (first | refine blk_drewN ?_ _ | refine blk_drew ?_ | refine blk_alloc ?_ _)); exact HG.out); omega)); (case aO => exact (by (with_reducible repeat (first | apply Kd.R_alloc | apply Kd.R_drewN | apply Kd.R_drew)); exact HO_7.out)); (case aS => exact (below_size (by repeat (first | (with_reducible first | exact HB.out | apply below_alloc | apply pw_below_drewN | apply below_drew1) | exact HB.out)))); (case aL => have := LMc42.out; omega); intro v180 w45 ho hb hg hat; rw [← Ny179.out] at ho; have n5_ := Aside0.mk (blk_grown (g := w3.heap.size) (by (with_reducible repeat (first | refine blk_drewN ?_ _ | refine blk_drew ?_ | refine blk_alloc ?_ _)); exact BK.out) hg (Kd.R_ne HO_7.out BK.out (by decide))); have n6_ := Aside0.mk (hb); have n7_ := Aside0.mk (ho); clear BK HB HO_7; have BK := n5_; have HB := n6_; have HO181 := n7_; clear n5_ n6_ n7_; clear ho hb hg hat))
                          go_roundg k2
                          case measure => have := HK1.out; have := HK2.out; omega
                          case rel => exact ⟨(wrap64 (x1_2 - t177)), (y179), (wrap64 (x26_1 + 1)), (by first | rfl | (simp; done) | (simp [*]; done)), (by first | rfl | (simp; done) | (simp [*]; done)), H', ⟨by have := HK1.out; have := HK2.out; omega⟩, ⟨by (with_reducible repeat (first | apply Kd.R_alloc | apply Kd.R_drewN | apply Kd.R_drew)); exact Kd.R_mono HO181.out (fun _ hk => trivial)⟩, ⟨by (with_reducible repeat (first | refine blk_drewN ?_ _ | refine blk_drew ?_ | refine blk_alloc ?_ _)); exact BK.out⟩, ⟨(by repeat (first | (with_reducible first | exact HB.out | apply below_alloc | apply pw_below_drewN | apply below_drew1) | exact HB.out))⟩⟩
                        · rw [if_neg c42] at H
                          exact absurd H (by simp)
                      · rw [if_neg c41] at H
                        have c41b0 : decide (0 < t178) = false := decide_eq_false c41
                        clear c41
                        have H' := Aside0.mk H
                        clear H
                        go_wp2_with (first | (go_at_call 62; (with_reducible refine (impl_worth.calls (rd l0 x26_1) (rd y173 x34_2) t177 _ A39.out).mono ?_); rintro e w' ⟨rfl, ⟨nd, rfl⟩⟩) | (go_at_call 48; refine (HW.out _ _ _ A40.out _ _ (HS2.out.move (by repeat (first | (with_reducible first | exact HB.out | apply below_alloc | apply pw_below_drewN | apply below_drew1) | exact HB.out)))).mono ?_; rintro e w44 ⟨rfl, hb⟩; have n0_ := Aside0.mk (Kd.R_below (by (with_reducible repeat (first | apply Kd.R_alloc | apply Kd.R_drewN | apply Kd.R_drew)); exact HO_7.out) hb); have n1_ := Aside0.mk (blk_below (g := gs) (by (with_reducible repeat (first | refine blk_drewN ?_ _ | refine blk_drew ?_ | refine blk_alloc ?_ _)); exact HG.out) hb); have n6_ := Aside0.mk (blk_below (g := w3.heap.size) (by (with_reducible repeat (first | refine blk_drewN ?_ _ | refine blk_drew ?_ | refine blk_alloc ?_ _)); exact BK.out) hb); have n7_ := Aside0.mk (below_step (by repeat (first | (with_reducible first | exact HB.out | apply below_alloc | apply pw_below_drewN | apply below_drew1) | exact HB.out)) hb); clear HO_7 HG BK HB hb; have HO_7 := n0_; have HG := n1_; have BK := n6_; have HB := n7_; clear n0_ n1_ n6_ n7_))
                        go_roundg k2
                        case measure => have := HK1.out; have := HK2.out; omega
                        case rel => exact ⟨(x1_2), (x7_2), (wrap64 (x34_2 + 1)), (by first | rfl | (simp; done) | (simp [*]; done)), (by first | rfl | (simp; done) | (simp [*]; done)), H', ⟨by have := HK1.out; have := HK2.out; omega⟩, ⟨by (with_reducible repeat (first | apply Kd.R_alloc | apply Kd.R_drewN | apply Kd.R_drew)); exact HO_7.out⟩, ⟨by (with_reducible repeat (first | refine blk_drewN ?_ _ | refine blk_drew ?_ | refine blk_alloc ?_ _)); exact HG.out⟩, ⟨by (with_reducible repeat (first | refine blk_drewN ?_ _ | refine blk_drew ?_ | refine blk_alloc ?_ _)); exact BK.out⟩, ⟨(by repeat (first | (with_reducible first | exact HB.out | apply below_alloc | apply pw_below_drewN | apply below_drew1) | exact HB.out))⟩⟩
                    · rw [if_neg c37] at H
                      exact absurd H (by simp)
                  · rw [if_neg c36] at H
                    have c36b0 : decide (x34_2 < 3) = false := decide_eq_false c36
                    clear c36
                    have H' := Aside0.mk H
                    clear H
                    go_wp2
                    go_roundg k2
                    case measure => have := HK1.out; have := HK2.out; omega
                    case rel => exact ⟨(x1_2), (x7_2), (wrap64 (x26_1 + 1)), (by first | rfl | (simp; done) | (simp [*]; done)), (by first | rfl | (simp; done) | (simp [*]; done)), H', ⟨by have := HK1.out; have := HK2.out; omega⟩, ⟨by (with_reducible repeat (first | apply Kd.R_alloc | apply Kd.R_drewN | apply Kd.R_drew)); exact Kd.R_mono HO_7.out (fun _ hk => trivial)⟩, ⟨by (with_reducible repeat (first | refine blk_drewN ?_ _ | refine blk_drew ?_ | refine blk_alloc ?_ _)); exact BK.out⟩, ⟨(by repeat (first | (with_reducible first | exact HB.out | apply below_alloc | apply pw_below_drewN | apply below_drew1) | exact HB.out))⟩⟩
            · rw [if_neg c31] at H
              exact absurd H (by simp)
          · rw [if_neg c30] at H
            have c30b0 : decide (x26_1 < (l0.length : Int)) = false := decide_eq_false c30
            clear c30
            simp only [Option.some.injEq, Prod.mk.injEq] at H
            obtain ⟨rfl, rfl⟩ := H
            have hcv48 := own_string (P := Try.prog) Try.underlying53 Try.underlying5 Try.underlying9 (Kd.own_of_R HO.out)
            go_wp2
            go_ret2
            exact ⟨by first | rfl | (simp [errW_none, errW_some] <;> rfl) | (simp [*, errW_none, errW_some] <;> rfl), below_step HB2.out (by repeat (first | (with_reducible first | exact HB.out | apply below_alloc | apply pw_below_drewN | apply below_drew1) | exact HB.out))⟩

end Go.Proofs.Ytobcoaafbekhaaa.Fb
