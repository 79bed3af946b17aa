/- Functions of the program and of the reference as Lean functions, and the contracts of their calls: laid by a program of this repo (wip/gen.py), in part by hand. -/
import Derived.Test.YtpekdmadmggbpaaCcx0
import Derived.Test.YtpekdmadmggbpaaCcx5
namespace Go.Proofs.Ytpekdmadmggbpaa.Cc
open Go.RowKit Go.Proofs.YtpekdmadmggbpaaW.PrintWords Go.Proofs.YtpekdmadmggbpaaW.PrintLast Go.Proofs.YtpekdmadmggbpaaW.PrintMore
attribute [local go_sem] max2_int min2_int max_two min_two max_three min_three max_four min_four   -- for this text's walks alone
set_option linter.unusedVariables false
set_option linter.unusedSimpArgs false

/-! ### impl_CheckedCards: function 22 -/
theorem impl_CheckedCards.C_cells {w : World} {A0 : Option Addr} {l0 : List Int} (h : Kd.C (Kd.int .i64) w A0 l0.length l0) (hp : 0 < l0.length) :
    ∃ b off, A0 = some ⟨b, off, none⟩ ∧ b < w.heap.size ∧ ∀ j, j < l0.length → w.cell? ⟨b, off + j, none⟩ = some (.int .i64 (l0.getD j 0)) := by
  obtain ⟨ad, rfl, h0⟩ := Kd.at_int h 0 (by omega) (by omega)
  have hs : ad.spot = none := by
    cases hsp : ad.spot with
    | none => rfl
    | some x =>
      simp only [Int.toNat_zero, Addr.add, if_true, World.cell?] at h0
      split at h0
      · simp [hsp] at h0
      · cases h0
  have hlt := World.block_lt_of_cell? w _ h0
  rw [add_block] at hlt
  obtain ⟨b, off, sp⟩ := ad
  simp only at hs hlt
  subst hs
  refine ⟨b, off, rfl, hlt, fun j hj => ?_⟩
  obtain ⟨ad', e', hc⟩ := Kd.at_int h (j : Int) (by omega) (by omega)
  cases e'
  rw [Int.toNat_natCast] at hc
  have e : (⟨b, off, none⟩ : Addr).add j = ⟨b, off + j, none⟩ := by
    unfold Addr.add
    by_cases hj0 : j = 0
    · subst hj0; rfl
    · rw [if_neg hj0]
  rw [e] at hc
  exact hc
/-- How many cards that have this digit hold the number. -/
def impl_CheckedCards.cnt (power x : Int) : List (List Int) → Int → Int → Int
  | [], _, on => on
  | l :: t, k, on => impl_CheckedCards.cnt power x t (wrap64 (k + 1)) (if wrap64 (k + 1) = power then on else if Go.bits .and .i64 (wrap64 (k + 1)) power = 0 then on else if l.contains x = true then wrap64 (on + 1) else on)
def impl_CheckedCards.odd (power : Int) (xs : List (List Int)) (x : Int) : Bool := Int.tmod (impl_CheckedCards.cnt power x xs 0 0) 2 == 1
theorem impl_CheckedCards.has (A0 : Option Addr) (c0 : Nat) (y : List Int) (x : Int) (w : World) (h : Kd.C (Kd.int .i64) w A0 y.length y) (hl : y.length ≤ 1000000000) :
    Calls Try.prog 49 #[.slice A0 y.length c0, .int .i64 x] w fun e w' => e = .returned (.bool (y.contains x)) ∧ w' = w := by
  by_cases hy : y = []
  · subst hy
    refine (Try.slices_Contains_int_empty A0 c0 x w).mono ?_
    rintro e w' ⟨rfl, rfl⟩
    exact ⟨rfl, rfl⟩
  · obtain ⟨b, off, rfl, _, hc⟩ := impl_CheckedCards.C_cells h (List.length_pos_iff.2 hy)
    refine (Try.slices_Contains_int b off y.length c0 y x w (Nat.le_refl _) (by omega) hc).mono ?_
    rintro e w' ⟨rfl, rfl⟩
    exact ⟨by rw [List.take_length], rfl⟩
set_option maxRecDepth 100000 in
set_option maxHeartbeats 8000000 in
theorem impl_CheckedCards.tells (n0 n : Int) (gc bp c : Nat) (A : Option Addr) (xs : List (List Int)) (power : Int) (w : World) (hbc : w.heap[gc]? = some (.cells #[.int .i64 n0, .slice A xs.length c] 27 (0, 0))) (hbp : w.heap[bp]? = some (.cells #[.int .i64 power] 3 (0, 0))) (hC : Kd.C (Kd.slice 3 (Kd.int .i64)) w A xs.length xs) (hcap : xs.length ≤ c) (hxl : xs.length ≤ 1000) (hrl : ∀ y ∈ xs, y.length ≤ 1000000000) :
    impl_cardOf.Tells 48 #[.pointer (some ⟨gc, 0, none⟩), .pointer (some ⟨bp, 0, none⟩)] n (impl_CheckedCards.odd power xs) w := by
  intro W x hb hx0 hx1
  have HBC := Aside0.mk (blk_below hbc hb)
  have HBP := Aside0.mk (blk_below hbp hb)
  have HC := Aside0.mk (Kd.C_below hC hb)
  have HCAP := Aside0.mk hcap
  have HXL := Aside0.mk hxl
  have HRL := Aside0.mk hrl
  obtain ⟨R, hR⟩ : ∃ R, impl_CheckedCards.cnt power x xs 0 0 = R := ⟨_, rfl⟩
  have HR := Aside0.mk hR
  have hodd : impl_CheckedCards.odd power xs x = (Int.tmod R 2 == 1) := by unfold impl_CheckedCards.odd; rw [hR]
  rw [hodd]
  clear hodd hR hb hbc hbp hC hcap hxl hrl w hx0 hx1
  have hz0 : W.cell? ⟨gc, 0, none⟩ = some (.int .i64 n0) := (blk_cell HBC.out 0).trans rfl
  have hz1 : W.cell? ⟨gc, 1, none⟩ = some (.slice A xs.length c) := (blk_cell HBC.out 1).trans rfl
  go_enter Try.func48, Try.ntmps48
  go_wp2
  clear hz0 hz1
  go_loopg [5, 12] xs.length (fun gg v5 v12 wr => ∃ (i : Nat) (on : Int), i ≤ xs.length ∧ xs.length - i ≤ gg ∧ v5 = .int .i64 on ∧ v12 = .int .i64 (i : Int) ∧ Aside0 (impl_CheckedCards.cnt power x (xs.drop i) (i : Int) on = R) ∧ wr = W)
  case atStart => exact ⟨0, 0, Nat.zero_le _, Nat.le_refl _, rfl, rfl, ⟨HR.out⟩, rfl⟩
  case round =>
    obtain ⟨i, on, hi, hg, rfl, rfl, HR2, rfl⟩ := hrel
    have HI := Aside0.mk hi
    have HGG := Aside0.mk hg
    clear hi hg HR
    have hzp : wr.cell? ⟨bp, 0, none⟩ = some (.int .i64 power) := (blk_cell HBP.out 0).trans rfl
    by_cases c1 : (i : Int) < (xs.length : Int)
    · have c1b : decide ((i : Int) < (xs.length : Int)) = true := decide_eq_true c1
      have HL := Aside0.mk c1
      have p0 : 0 ≤ (i : Int) := by omega
      have q0 : (i : Int) < (xs.length : Int) := c1
      obtain ⟨ad, A0, c0, e_, hx0, hl0, hC0⟩ := at_L1 HC.out (i : Int) p0 q0
      cases e_
      have hd_ : xs.drop i = rd_L1 xs (i : Int) :: xs.drop (i + 1) := by
        have hlt : i < xs.length := by omega
        rw [List.drop_eq_getElem_cons hlt]
        congr 1
        unfold rd_L1
        rw [Int.toNat_natCast, List.getD_eq_getElem?_getD, List.getElem?_eq_getElem hlt]; rfl
      have hiq : wrap64 ((i : Int) + 1) = ((i + 1 : Nat) : Int) := by have := HXL.out; unfold wrap64; omega
      have HR3 := HR2.out
      rw [hd_, impl_CheckedCards.cnt] at HR3
      have HH := Aside0.mk (fun W' (e_ : W' = wr) => impl_CheckedCards.has A0 c0 (rd_L1 xs (i : Int)) x W' (e_ ▸ hC0) (HRL.out _ (by
        have hm : rd_L1 xs (i : Int) ∈ xs.drop i := by rw [hd_]; exact List.mem_cons_self
        exact List.mem_of_mem_drop hm)))
      rw [Int.toNat_natCast] at hx0
      generalize rd_L1 xs (i : Int) = y at HR3 HH hx0 ⊢
      have HIQ := Aside0.mk hiq
      clear hd_ HR2 c1 hl0 hC0 hiq
      replace p0 := eq_true p0
      replace q0 := eq_true q0
      by_cases c2 : wrap64 ((i : Int) + 1) = power
      · rw [if_pos c2, HIQ.out] at HR3
        have HR4 := Aside0.mk HR3
        have c2a : decide (wrap64 ((i : Int) + 1) = power) = true := decide_eq_true c2
        have c2b : (wrap64 ((i : Int) + 1) == power) = true := beq_iff_eq.2 c2
        have c2c : (wrap64 ((i : Int) + 1) != power) = false := bne_eq_false_iff_eq.2 c2
        clear c2 HR3
        go_wp2
        rw [HIQ.out]
        go_roundg (xs.length - (i + 1))
        case measure => have := HGG.out; have := HL.out; omega
        case rel => exact ⟨i + 1, on, by have := HL.out; omega, Nat.le_refl _, rfl, by first | rfl | go_num, HR4, rfl⟩
      · rw [if_neg c2] at HR3
        have c2a : decide (wrap64 ((i : Int) + 1) = power) = false := decide_eq_false c2
        have c2b : (wrap64 ((i : Int) + 1) == power) = false := beq_eq_false_iff_ne.2 c2
        have c2c : (wrap64 ((i : Int) + 1) != power) = true := bne_iff_ne.2 c2
        clear c2
        by_cases c3 : Go.bits .and .i64 (wrap64 ((i : Int) + 1)) power = 0
        · rw [if_pos c3, HIQ.out] at HR3
          have HR4 := Aside0.mk HR3
          have c3b : (Go.bits .and .i64 (wrap64 ((i : Int) + 1)) power == 0) = true := beq_iff_eq.2 c3
          have c3c : (Go.bits .and .i64 (wrap64 ((i : Int) + 1)) power != 0) = false := bne_eq_false_iff_eq.2 c3
          clear c3 HR3
          go_wp2
          rw [HIQ.out]
          go_roundg (xs.length - (i + 1))
          case measure => have := HGG.out; have := HL.out; omega
          case rel => exact ⟨i + 1, on, by have := HL.out; omega, Nat.le_refl _, rfl, by first | rfl | go_num, HR4, rfl⟩
        · rw [if_neg c3, HIQ.out] at HR3
          have c3b : (Go.bits .and .i64 (wrap64 ((i : Int) + 1)) power == 0) = false := beq_eq_false_iff_ne.2 c3
          have c3c : (Go.bits .and .i64 (wrap64 ((i : Int) + 1)) power != 0) = true := bne_iff_ne.2 c3
          clear c3
          cases h4 : y.contains x with
          | true =>
            rw [h4, if_pos rfl] at HR3
            rw [h4] at HH
            have HR4 := Aside0.mk HR3
            clear HR3 h4
            go_wp2_with (go_at_call 49; refine (HH.out _ rfl).mono ?_; rintro e_ w1 ⟨rfl, rfl⟩)
            rw [HIQ.out]
            go_roundg (xs.length - (i + 1))
            case measure => have := HGG.out; have := HL.out; omega
            case rel => exact ⟨i + 1, wrap64 (on + 1), by have := HL.out; omega, Nat.le_refl _, rfl, by first | rfl | go_num, HR4, rfl⟩
          | false =>
            rw [h4, if_neg (by decide)] at HR3
            rw [h4] at HH
            have HR4 := Aside0.mk HR3
            clear HR3 h4
            go_wp2_with (go_at_call 49; refine (HH.out _ rfl).mono ?_; rintro e_ w1 ⟨rfl, rfl⟩)
            rw [HIQ.out]
            go_roundg (xs.length - (i + 1))
            case measure => have := HGG.out; have := HL.out; omega
            case rel => exact ⟨i + 1, on, by have := HL.out; omega, Nat.le_refl _, rfl, by first | rfl | go_num, HR4, rfl⟩
    · have c1b : decide ((i : Int) < (xs.length : Int)) = false := decide_eq_false c1
      obtain rfl : i = xs.length := by have := HI.out; omega
      have HR3 := HR2.out
      rw [List.drop_length] at HR3
      obtain rfl : on = R := HR3
      clear c1
      go_wp2
      go_ret
      exact ⟨rfl, Below.refl _ _⟩
/-- Cards of nil at the places that are powers of two, the given ones at the others. -/
def impl_CheckedCards.mix : Nat → List (List Int) → List (List Int) → Option (List (List Int))
  | 0, _, _ => none
  | _ + 1, acc, [] => some acc
  | k + 1, acc, l :: t => if acc.length ≤ 1000 then (if Go.bits .and .i64 (wrap64 ((acc.length : Int) + 1)) (wrap64 (wrap64 ((acc.length : Int) + 1) - 1)) = 0 then impl_CheckedCards.mix k (acc ++ [[]]) (l :: t) else impl_CheckedCards.mix k (acc ++ [l]) t) else none
/-- The cards of the digits' digits. -/
def impl_CheckedCards.fill (n : Int) : Nat → Int → List (List Int) → Option (List (List Int))
  | 0, _, _ => none
  | k + 1, power, xs => if power ≤ (xs.length : Int) then (if (1 ≤ power ∧ xs.length ≤ 1000) ∧ (xs.all fun y => decide (y.length ≤ 1000000000)) = true then impl_CheckedCards.fill n k (wrap64 (power * 2)) (xs.set (power - 1).toNat (impl_cardOf.card (impl_CheckedCards.odd power xs) n.toNat)) else none) else some xs
def impl_CheckedCards.f (k : Nat) (a0 : Int) : Option (Int × List (List Int) × Bool) := if a0 < 2 then some (0, [], false) else (impl_BinaryCards.f k a0).bind fun t => if t.2.2 = true then (if (a0 ≤ 1000 ∧ 0 < t.2.1.length) ∧ t.2.1.length ≤ 1000 then ((impl_CheckedCards.mix k [] t.2.1).bind fun xs => (impl_CheckedCards.fill a0 k 1 xs).bind fun ys => some (a0, ys, true)) else none) else some (0, [], false)
/-- A row of rows, row by row: where each lies, no two of them in one block. -/
theorem impl_CheckedCards.rows_of {W : World} {base c : Nat} {A : Option Addr} {L : List (List Int)} (h : Kd.S (Kd.slice 3 (Kd.int .i64)) 46 W base (fun _ => True) (.slice A L.length c) L) (hp : 0 < L.length) :
    ∃ (g : Nat) (cells : Array Value) (Q : Nat → Nat → Prop), A = some ⟨g, 0, none⟩ ∧ W.heap[g]? = some (.cells cells 46 (0, 0)) ∧ (∀ i j k, Q i k → Q j k → i = j) ∧ (∀ i k, Q i k → k < W.heap.size) ∧ ∀ i, i < L.length → ∃ u, cells[i]? = some u ∧ Kd.R (Kd.int .i64) 3 W base (Q i) u (rd_L1 L (i : Int)) := by
  obtain ⟨g, cap, e_, _, hlt, cells, hc⟩ := Kd.S_form h hp
  injection e_ with e1 _ e3
  subst e1
  obtain ⟨f, hR⟩ := h
  refine ⟨g, cells, fun i k => f k = i ∧ k < W.heap.size, rfl, hc, fun i j k h1 h2 => h1.1.symm.trans h2.1, fun i k h1 => h1.2, fun i hi => ?_⟩
  obtain ⟨cs, hcl, hM, hcc, _⟩ := Kd.R_elem hR (([] : List Int), 0) (i : Int) (by omega) (by omega)
  have hz : L.zipIdx.getD (i : Int).toNat (([] : List Int), 0) = (rd_L1 L (i : Int), i) := by
    unfold rd_L1
    rw [Int.toNat_natCast, List.getD_eq_getElem?_getD, List.getD_eq_getElem?_getD, List.getElem?_zipIdx, List.getElem?_eq_getElem hi]
    simp
  rw [hz] at hM
  have hM2 : (Kd.slice 3 (Kd.int .i64)).M W base (fun k => (True ∧ k ≠ g) ∧ f k = i) (rd_L1 L (i : Int)) cs := hM
  obtain ⟨u, rfl, hu⟩ := hM2
  have h0 := hcc 0 u rfl
  have h1 : W.cell? ⟨g, i, none⟩ = some u := by
    have e2 : (i : Int).toNat * ((Kd.tag f (Kd.slice 3 (Kd.int .i64))).sz) + 0 = i := by show (i : Int).toNat * 1 + 0 = i; omega
    rw [e2] at h0; exact h0
  refine ⟨u, (blk_cell hc i).symm.trans h1, Kd.R_mono (Kd.R_bound hu) (fun k hk => ⟨hk.1.2, hk.2.2.1⟩)⟩
/-- What the cards built so far may lead to: what is new since N, and the rows taken over. -/
def impl_CheckedCards.Ok (N : Nat) (Q : Nat → Nat → Prop) (i k : Nat) : Prop := N ≤ k ∨ ∃ j, j < i ∧ Q j k
set_option maxRecDepth 100000 in
set_option maxHeartbeats 8000000 in
theorem impl_CheckedCards.calls (k : Nat) (a0 : Int) (r1 : Int) (r2 : List (List Int)) (r3 : Bool) (w : World) (h : impl_CheckedCards.f k a0 = some (r1, r2, r3)) :
    Calls Try.prog 22 #[.int .i64 a0] w fun e w' => ∃ v1_ : Value, e = .returned (.tuple #[.agg #[.int .i64 r1, v1_], .bool r3]) ∧ Kd.S (Kd.slice 3 (Kd.int .i64)) 46 w' w.heap.size (fun _ => True) v1_ r2 ∧ Below w.heap.size w w' := by
  have hu27 := Try.underlying27
  unfold impl_CheckedCards.f at h
  by_cases ha : a0 < 2
  · rw [if_pos ha] at h
    obtain ⟨rfl, rfl, rfl⟩ : 0 = r1 ∧ [] = r2 ∧ false = r3 := by simpa using h
    have hab : decide (a0 < 2) = true := decide_eq_true ha
    clear h ha
    go_enter Try.func22, Try.ntmps22
    go_wp2
    refine bodyPost_ret (results_ct rfl _ _ w.heap.size 27 #[.int .i64 0, .slice none 0 0] (0, 0) _ rfl ?_ Try.underlying27 rfl (by kernel_rfl)) rfl ⟨_, rfl, Kd.S_nil _ _ _ _ _, ?_⟩
    · exact blk_new _ _
    · exact below_alloc (Below.refl _ _) _
  rw [if_neg ha] at h
  have hab : decide (a0 < 2) = false := decide_eq_false ha
  obtain ⟨⟨n0, L, b⟩, h1, h2⟩ := Option.bind_eq_some_iff.1 h
  clear h
  have HBI := Aside0.mk (fun W => impl_BinaryCards.calls k a0 n0 L b W h1)
  have HA2 := Aside0.mk ha
  clear h1 ha
  cases b with
  | false =>
    obtain ⟨rfl, rfl, rfl⟩ : 0 = r1 ∧ [] = r2 ∧ false = r3 := by simpa using h2
    clear h2
    go_enter Try.func22, Try.ntmps22
    go_wp2_with (go_at_call 16; refine (HBI.out _).mono ?_; rintro e_ w1 ⟨vP, rfl, ho, hb⟩; have BKr := Aside0.mk (blk_below (blk_new w (.cells #[.int .i64 0, .slice none 0 0] 27)) hb); have HB := Aside0.mk (below_step (below_alloc (Below.refl _ _) _) hb); obtain ⟨AP, cP, rfl⟩ := Kd.S_slice ho; have hr0 : (w1.alloc (.cells #[.int .i64 n0, .slice AP L.length cP] 27)).cell? ⟨w.heap.size, 0, none⟩ = some (.int .i64 0) := (blk_cell (blk_alloc BKr.out (.cells #[.int .i64 n0, .slice AP L.length cP] 27)) 0).trans rfl; have hr1 : (w1.alloc (.cells #[.int .i64 n0, .slice AP L.length cP] 27)).cell? ⟨w.heap.size, 1, none⟩ = some (.slice none 0 0) := (blk_cell (blk_alloc BKr.out (.cells #[.int .i64 n0, .slice AP L.length cP] 27)) 1).trans rfl; have hf0 := blk_frozen (blk_alloc BKr.out (.cells #[.int .i64 n0, .slice AP L.length cP] 27)) 0; have hf1 := blk_frozen (blk_alloc BKr.out (.cells #[.int .i64 n0, .slice AP L.length cP] 27)) 1; clear ho hb)
    refine bodyPost_ret (results_ct rfl _ _ w.heap.size 27 #[.int .i64 0, .slice none 0 0] (0, 0) _ rfl ?_ Try.underlying27 rfl (by kernel_rfl)) rfl ⟨_, rfl, Kd.S_nil _ _ _ _ _, ?_⟩
    · refine blk_put (cs := #[.int .i64 0, .slice none 0 0]) ?_ 1 _ rfl
      refine blk_put (cs := #[.int .i64 0, .slice none 0 0]) ?_ 0 _ rfl
      exact blk_alloc BKr.out _
    · exact below_set (below_set (below_alloc HB.out _) (Nat.le_refl _)) (Nat.le_refl _)
  | true =>
    have h3 := h2
    clear h2
    simp only [if_true] at h3
    have hg : (a0 ≤ 1000 ∧ 0 < L.length) ∧ L.length ≤ 1000 := by
      apply Classical.byContradiction; intro hn; rw [if_neg hn] at h3; cases h3
    rw [if_pos hg] at h3
    obtain ⟨XS, hx1, h4⟩ := Option.bind_eq_some_iff.1 h3
    obtain ⟨YS, hy1, h5⟩ := Option.bind_eq_some_iff.1 h4
    obtain ⟨rfl, rfl, rfl⟩ : a0 = r1 ∧ YS = r2 ∧ true = r3 := by simpa using h5
    have HG0 := Aside0.mk hg
    have HX := Aside0.mk hx1
    have HY := Aside0.mk hy1
    clear h3 h4 h5 hg hx1 hy1
    go_enter Try.func22, Try.ntmps22
    go_wp2_with (first | (go_at_call 16; refine (HBI.out _).mono ?_; rintro e_ w1 ⟨vP, rfl, ho, hb⟩; obtain ⟨AP, cP, rfl⟩ := Kd.S_slice ho; have BKr := Aside0.mk (blk_below (blk_new w (.cells #[.int .i64 0, .slice none 0 0] 27)) hb); have HB := Aside0.mk (below_step (below_alloc (Below.refl _ _) _) hb); have HP := Aside0.mk (Kd.S_lower ho (below_size (below_alloc (Below.refl _ _) _))); clear ho hb HBI) | ((with_reducible refine gate_dst (N := 22) rfl ?_); refine Kd.S_lit (Kd.slice 3 (Kd.int .i64)) w.heap.size 46 ?hg (N := 22) ?hd (xs := ([] : List (List Int))) (inner := []) (ok := fun k_ => (w1.alloc (.cells #[.int .i64 n0, .slice AP L.length cP] 27)).heap.size ≤ k_) (okp := fun k_ => (w1.alloc (.cells #[.int .i64 n0, .slice AP L.length cP] 27)).heap.size ≤ k_) ?hr ?hp (fun _ hk => hk) (Nat.le_refl _) (below_alloc HB.out _) (below_alloc HB.out _).size (by simp) ?_; (case hd => rfl); (case hg => rfl); (case hr => first | (go_simp; done) | (go_simp; rfl)); (case hp => exact (Reps.none _ _)); intro v8 w3 ho hb hg_ hnew_; have HS := Aside0.mk ho; have HB3 := Aside0.mk hb; have HGR := Aside0.mk hg_; have HNW := Aside0.mk hnew_; clear ho hb hg_ hnew_; obtain ⟨A8, c8, rfl⟩ := Kd.S_slice HS.out))
    have BKp := Aside0.mk (blk_new w1 (.cells #[.int .i64 n0, .slice AP L.length cP] 27))
    have BKr2 := Aside0.mk (blk_alloc BKr.out (.cells #[.int .i64 n0, .slice AP L.length cP] 27))
    have HP2 := Aside0.mk (Kd.S_alloc HP.out (.cells #[.int .i64 n0, .slice AP L.length cP] 27))
    have HB2 := Aside0.mk (below_alloc HB.out (.cells #[.int .i64 n0, .slice AP L.length cP] 27))
    have HLP := Aside0.mk (blk_lt BKr.out)
    generalize w1.alloc (.cells #[.int .i64 n0, .slice AP L.length cP] 27) = w2 at BKp BKr2 HP2 HB2 HS HB3 HGR HNW ⊢
    generalize w1.heap.size = gp at BKp HLP ⊢
    clear HP HB BKr
    obtain ⟨gP, cellsP, Q, rfl, hgP, hQ1, hQ2, hQ3⟩ := impl_CheckedCards.rows_of HP2.out HG0.out.1.2
    have BKP := Aside0.mk hgP
    have HQ1 := Aside0.mk hQ1
    have HQ2 := Aside0.mk hQ2
    have HQ3 := Aside0.mk hQ3
    clear hgP hQ1 hQ2 hQ3 HP2
    have BKc := Aside0.mk (blk_new w3 (.cells #[.int .i64 a0, .slice A8 0 c8] 27))
    have HS4 := Aside0.mk (Kd.S_mono (Kd.S_alloc HS.out (.cells #[.int .i64 a0, .slice A8 0 c8] 27)) (ok' := impl_CheckedCards.Ok w2.heap.size Q 0) (fun k_ hk_ => Or.inl hk_))
    have HB4 := Aside0.mk (below_alloc HB3.out (.cells #[.int .i64 a0, .slice A8 0 c8] 27))
    have HVB := Aside0.mk (show ∀ k_, (Value.slice A8 0 c8).ownBlock = some k_ → w2.heap.size ≤ k_ from fun k_ e_ => by
      obtain ⟨b_, hb1, hb2⟩ := HNW.out
      have e2 : some b_ = some k_ := hb1.symm.trans e_
      injection e2 with e2
      omega)
    have HOLD := Aside0.mk (show ∀ k_, k_ < w2.heap.size → (w3.alloc (.cells #[.int .i64 a0, .slice A8 0 c8] 27)).heap[k_]? = w2.heap[k_]? from fun k_ hk_ => by
      have e1 := HGR.out.block k_ hk_ (by simp)
      have hs3 : w2.heap.size ≤ w3.heap.size := HGR.out.size
      exact ((below_alloc (Below.refl w3.heap.size w3) _).block k_ (by omega)).trans e1)
    have HN := Aside0.mk (show w2.heap.size ≤ w3.heap.size from HGR.out.size)
    have HN4 := Aside0.mk (show w2.heap.size ≤ (w3.alloc (.cells #[.int .i64 a0, .slice A8 0 c8] 27)).heap.size from Nat.le_trans HN.out (below_alloc (Below.refl w3.heap.size w3) _).size)
    generalize w3.alloc (.cells #[.int .i64 a0, .slice A8 0 c8] 27) = w4 at BKc HS4 HB4 HOLD HN4 ⊢
    generalize w3.heap.size = gc at BKc HN ⊢
    have HGC := Aside0.mk (show w.heap.size ≤ gc from Nat.le_trans HB2.out.size HN.out)
    clear HB2
    clear HS HB3 HGR HNW
    go_loopg [7] k (fun gg v7 wr => ∃ (i : Nat) (acc : List (List Int)) (Ac : Option Addr) (cc : Nat), i ≤ L.length ∧ v7 = .int .i64 (i : Int) ∧ Aside0 (gg ≤ k) ∧ Aside0 (impl_CheckedCards.mix gg acc (L.drop i) = some XS) ∧ Aside0 (Kd.S (Kd.slice 3 (Kd.int .i64)) 46 wr w.heap.size (impl_CheckedCards.Ok w2.heap.size Q i) (.slice Ac acc.length cc) acc) ∧ Aside0 (wr.heap[gc]? = some (.cells #[.int .i64 a0, .slice Ac acc.length cc] 27 (0, 0))) ∧ Aside0 (∀ k_, (Value.slice Ac acc.length cc).ownBlock = some k_ → w2.heap.size ≤ k_) ∧ Aside0 (∀ k_, k_ < w2.heap.size → wr.heap[k_]? = w2.heap[k_]?) ∧ Aside0 (w2.heap.size ≤ wr.heap.size) ∧ Aside0 (Below w.heap.size w wr))
    case atStart => exact ⟨0, [], A8, c8, Nat.zero_le _, rfl, ⟨Nat.le_refl _⟩, HX, HS4, BKc, HVB, HOLD, HN4, HB4⟩
    case round =>
      clear HS4 BKc HVB HOLD HN4 HB4 HX
      obtain ⟨i, acc, Ac, cc, hi, rfl, HK1, HX, HS, BKc, HVB, HOLD, HN4, HB⟩ := hrel
      have HI := Aside0.mk hi
      clear hi
      have hzc : wr.cell? ⟨gc, 1, none⟩ = some (.slice Ac acc.length cc) := (blk_cell BKc.out 1).trans rfl
      have hzp : wr.cell? ⟨gp, 1, none⟩ = some (.slice (some ⟨gP, 0, none⟩) L.length cP) := (blk_cell ((HOLD.out gp (blk_lt BKp.out)).trans BKp.out) 1).trans rfl
      cases gk with
      | zero => exact absurd HX.out (by simp [impl_CheckedCards.mix])
      | succ k1 =>
        by_cases c1 : (i : Int) < (L.length : Int)
        · have c1b : decide ((i : Int) < (L.length : Int)) = true := decide_eq_true c1
          have HL := Aside0.mk c1
          have c1n : i < L.length := by omega
          have hd_ : L.drop i = rd_L1 L (i : Int) :: L.drop (i + 1) := by
            have hlt : i < L.length := by omega
            rw [List.drop_eq_getElem_cons hlt]
            congr 1
            unfold rd_L1
            rw [Int.toNat_natCast, List.getD_eq_getElem?_getD, List.getElem?_eq_getElem hlt]; rfl
          have hX2 := HX.out
          rw [hd_, impl_CheckedCards.mix] at hX2
          by_cases c2 : acc.length ≤ 1000
          · rw [if_pos c2] at hX2
            have HAL := Aside0.mk c2
            clear c1 c2
            by_cases c3 : Go.bits .and .i64 (wrap64 ((acc.length : Int) + 1)) (wrap64 (wrap64 ((acc.length : Int) + 1) - 1)) = 0
            · rw [if_pos c3, ← hd_] at hX2
              have HX2 := Aside0.mk hX2
              have c3b : (Go.bits .and .i64 (wrap64 ((acc.length : Int) + 1)) (wrap64 (wrap64 ((acc.length : Int) + 1) - 1)) == 0) = true := beq_iff_eq.2 c3
              clear c3 hX2 hd_ HX
              obtain ⟨acc2, hacc2⟩ : ∃ a_, a_ = acc ++ [([] : List Int)] := ⟨_, rfl⟩
              have HNX := Aside0.mk hacc2
              have HALE := Aside0.mk (show acc2.length = acc.length + 1 by rw [hacc2]; simp)
              rw [← hacc2] at HX2
              clear hacc2
              go_wp2_with ((with_reducible refine gate_builtin (b := .append) (xs := #[.tmp 39, .tmp 40]) rfl ?_); at_builtin; refine Kd.S_append (Kd.slice 3 (Kd.int .i64)) (w0 := w) w.heap.size rfl (.tmp 39) (.tmp 40) 22 46 (.slice none 0 0) 24 rfl Try.underlying22 impl_BinaryCards.infoS rfl (by decide) (by omega) (.slice Ac acc.length cc) acc [] [.slice none 0 0] (impl_CheckedCards.Ok w2.heap.size Q i) (fun _ => False) rfl rfl ?aP (fun _ hk => hk.elim) ?aF ?aO ?aB ?aS ?aL ?_; (case aP => exact Kd.M_row (Kd.R_nil _ _ _ _ _)); (case aB => exact HB.out); (case aF => exact (fun k_ hk_ => Or.inl (Nat.le_trans HN4.out hk_))); (case aO => exact Kd.S_mono HS.out (fun k_ hk_ => ⟨hk_, fun e_ => e_⟩)); (case aS => exact below_size HB.out); (case aL => have := HAL.out; omega); intro v15 w5 ho hb hg hat; rw [← HNX.out] at ho; have HS5 := Aside0.mk ho; have HB5 := Aside0.mk hb; have HG5 := Aside0.mk hg; have HAT := Aside0.mk hat; clear ho hb hg hat; have BKc5 := Aside0.mk (blk_grown BKc.out HG5.out (Kd.S_ne HS.out BKc.out (by decide))); have hz5 : w5.cell? ⟨gc, 1, none⟩ = some (.slice Ac acc.length cc) := (blk_cell BKc5.out 1).trans rfl; have hf5 := blk_frozen BKc5.out 1; obtain ⟨A5, c5, rfl⟩ := Kd.S_slice HS5.out)
              have HNW := HN4
              have HOLD1 := HOLD
              have HVB5 := Aside0.mk (show ∀ k_, (Value.slice A5 acc2.length c5).ownBlock = some k_ → w2.heap.size ≤ k_ from fun k_ e_ => by
                rcases HAT.out with h_ | ⟨b_, h_, hb_⟩
                · exact HVB.out k_ (h_.symm.trans e_)
                · have e2 : some b_ = some k_ := h_.symm.trans e_
                  injection e2 with e2
                  have := HNW.out
                  omega)
              have HOLDW := Aside0.mk (show ∀ k_, k_ < w2.heap.size → w5.heap[k_]? = w2.heap[k_]? from fun k_ hk_ => by
                have h1_ := HG5.out.block k_ (Nat.lt_of_lt_of_le hk_ HNW.out) (fun e_ => by have := HVB.out k_ e_.symm; omega)
                exact h1_.trans (HOLD1.out k_ hk_))
              go_roundg k1
              case measure => have := HK1.out; omega
              case rel => exact ⟨i, acc2, A5, c5, by have := HL.out; omega, rfl, ⟨by have := HK1.out; omega⟩, HX2, ⟨Kd.S_set HS5.out BKc5.out (by decide) 1 _⟩, ⟨blk_put (cs := #[.int .i64 a0, .slice Ac acc.length cc]) BKc5.out 1 _ rfl⟩, HVB5, ⟨fun k_ hk_ => (Below.heap_setCell w5 ⟨gc, 1, none⟩ _ k_ (by have := HN.out; show k_ ≠ gc; omega)).trans (HOLDW.out k_ hk_)⟩, ⟨by rw [World.size_setCell]; exact Nat.le_trans HNW.out HG5.out.size⟩, ⟨below_set HB5.out HGC.out⟩⟩
            · rw [if_neg c3] at hX2
              have HX2 := Aside0.mk hX2
              have c3b : (Go.bits .and .i64 (wrap64 ((acc.length : Int) + 1)) (wrap64 (wrap64 ((acc.length : Int) + 1) - 1)) == 0) = false := beq_eq_false_iff_ne.2 c3
              clear c3 hX2 hd_ HX
              obtain ⟨u, hu1, hu2⟩ := HQ3.out i (by have := HL.out; omega)
              obtain ⟨y, hy⟩ : ∃ y_, rd_L1 L (i : Int) = y_ := ⟨_, rfl⟩
              rw [hy] at hu2 HX2
              obtain ⟨acc2, hacc2⟩ : ∃ a_, a_ = acc ++ [y] := ⟨_, rfl⟩
              have HNX := Aside0.mk hacc2
              have HALE := Aside0.mk (show 0 < acc2.length by rw [hacc2]; simp)
              rw [← hacc2] at HX2
              clear hacc2 hy
              have HRU := Aside0.mk (Kd.R_move hu2 (fun k_ hk_ => HOLD.out k_ (HQ2.out i k_ hk_)))
              have hrow : wr.cell? ⟨gP, i, none⟩ = some u := (blk_cell ((HOLD.out gP (blk_lt BKP.out)).trans BKP.out) i).trans hu1
              have HU1 := Aside0.mk hu1
              clear hu1 hu2
              have p0 : 0 ≤ (i : Int) := by omega
              have q0 : (i : Int) < (L.length : Int) := HL.out
              replace p0 := eq_true p0
              replace q0 := eq_true q0
              have HCE := Aside0.mk (show (wr.cell? ⟨gc, 1, none⟩ = some (.slice Ac acc.length cc) ∧ wr.cell? ⟨gp, 1, none⟩ = some (.slice (some ⟨gP, 0, none⟩) L.length cP)) ∧ wr.cell? ⟨gP, i, none⟩ = some u from ⟨⟨hzc, hzp⟩, hrow⟩)
              obtain ⟨A_, c_, eu_⟩ := Kd.R_slice HRU.out
              have HBW := HB
              clear HB
              have HB := Aside0.mk (Below.refl wr.heap.size wr)
              go_wp2
              clear hzc hzp hrow
              refine start_ (n := 11) (S := fun w' => (w'.cell? ⟨gc, 1, none⟩ = some (.slice Ac acc.length cc) ∧ w'.cell? ⟨gp, 1, none⟩ = some (.slice (some ⟨gP, 0, none⟩) L.length cP)) ∧ w'.cell? ⟨gP, i, none⟩ = some u) (ds := [10]) #[false, false, false, false, false, false, false, false, false, false, false] (by kernel_rfl) rfl rfl HCE.out (fun hHeld => ?_)
              replace HB := Aside0.mk (below_drew1 HB.out)
              generalize World.drew _ = w1 at HB hHeld ⊢
              refine pure_ (i := 0) (N := some 43) (v := ?_) (a' := ?_) #[true, false, false, false, false, false, false, false, false, false, false] rfl rfl (by kernel_rfl) (fun _ _ _ h => h) (Or.inl ⟨by rfl, ?_⟩) ?_ ?_
              rotate_left
              · intro w'
                go_simp
                with_reducible rfl
              rotate_left
              · simp only [Act.put, List.setIfInBounds_toArray, List.set_cons_zero, List.set_cons_succ, i64_w, i32_w]
                rfl
              refine take_ (i := 1) (N := some 44) (v := ?_) (a' := ?_) #[true, true, false, false, false, false, false, false, false, false, false] rfl rfl (by kernel_rfl) (fun _ _ _ h => h) (Or.inl ⟨by rfl, ?_⟩) hHeld ?_ ?_
              rotate_left
              · rintro w' ⟨⟨s0, s1⟩, s2⟩
                go_simp
                with_reducible rfl
              rotate_left
              · simp only [Act.put, List.setIfInBounds_toArray, List.set_cons_zero, List.set_cons_succ, i64_w, i32_w]
                rfl
              refine pure_ (i := 2) (N := some 45) (v := ?_) (a' := ?_) #[true, true, true, false, false, false, false, false, false, false, false] rfl rfl (by kernel_rfl) (fun _ _ _ h => h) (Or.inl ⟨by rfl, ?_⟩) ?_ ?_
              rotate_left
              · intro w'
                go_simp
                with_reducible rfl
              rotate_left
              · simp only [Act.put, List.setIfInBounds_toArray, List.set_cons_zero, List.set_cons_succ, i64_w, i32_w]
                rfl
              refine take_ (i := 3) (N := some 46) (v := ?_) (a' := ?_) #[true, true, true, true, false, false, false, false, false, false, false] rfl rfl (by kernel_rfl) (fun _ _ _ h => h) (Or.inl ⟨by rfl, ?_⟩) hHeld ?_ ?_
              rotate_left
              · rintro w' ⟨⟨s0, s1⟩, s2⟩
                go_simp
                with_reducible rfl
              rotate_left
              · simp only [Act.put, List.setIfInBounds_toArray, List.set_cons_zero, List.set_cons_succ, i64_w, i32_w]
                rfl
              refine pure_ (i := 4) (N := some 47) (v := ?_) (a' := ?_) #[true, true, true, true, true, false, false, false, false, false, false] rfl rfl (by kernel_rfl) (fun _ _ _ h => h) (Or.inl ⟨by rfl, ?_⟩) ?_ ?_
              rotate_left
              · intro w'
                go_simp
                with_reducible rfl
              rotate_left
              · simp only [Act.put, List.setIfInBounds_toArray, List.set_cons_zero, List.set_cons_succ, i64_w, i32_w]
                rfl
              refine pure_ (i := 5) (N := some 48) (v := ?_) (a' := ?_) #[true, true, true, true, true, true, false, false, false, false, false] rfl rfl (by kernel_rfl) (fun _ _ _ h => h) (Or.inl ⟨by rfl, ?_⟩) ?_ ?_
              rotate_left
              · intro w'
                go_simp
                with_reducible rfl
              rotate_left
              · simp only [Act.put, List.setIfInBounds_toArray, List.set_cons_zero, List.set_cons_succ, i64_w, i32_w]
                rfl
              refine take_ (i := 6) (N := some 49) (v := ?_) (a' := ?_) #[true, true, true, true, true, true, true, false, false, false, false] rfl rfl (by kernel_rfl) (fun _ _ _ h => h) (Or.inl ⟨by rfl, ?_⟩) hHeld ?_ ?_
              rotate_left
              · rintro w' ⟨⟨s0, s1⟩, s2⟩
                go_simp
                with_reducible rfl
              rotate_left
              · simp only [Act.put, List.setIfInBounds_toArray, List.set_cons_zero, List.set_cons_succ, i64_w, i32_w]
                rfl
              refine one_ (i := 7) (N := some 50) #[true, true, true, true, true, true, true, true, false, false, false] rfl rfl (by kernel_rfl) (by decide) (fun K hK => ?_)
              refine value_ (w1 := w1.alloc (.cells #[u] 46)) (v := .slice (some ⟨w1.heap.size, 0, none⟩) 1 1) (by rfl) rfl ?_ ?_
              · first | (go_simp; done) | (go_simp; rfl)
              refine hK.out _ _ ⟨⟨pw_cell_below (below_alloc (Below.refl _ _) _) hHeld.1.1, pw_cell_below (below_alloc (Below.refl _ _) _) hHeld.1.2⟩, pw_cell_below (below_alloc (Below.refl _ _) _) hHeld.2⟩ (fun hHeld => ?_)
              clear hK K
              refine norm_ (a' := ?_) ?_ ?_
              rotate_left
              · show Act.put _ (some 50) _ = _
                simp only [Act.put, List.setIfInBounds_toArray, List.set_cons_zero, List.set_cons_succ, i64_w, i32_w]
                rfl
              refine one_ (i := 8) (N := some 51) #[true, true, true, true, true, true, true, true, true, false, false] rfl rfl (by kernel_rfl) (by decide) (fun K hK => ?_)
              refine Kd.S_append_step (Kd.slice 3 (Kd.int .i64)) (w0 := w) w.heap.size (by rfl) (.tmp 44) (.tmp 50) 22 46 (.slice none 0 0) 24 rfl Try.underlying22 impl_BinaryCards.infoS rfl (by decide) (by omega) (.slice Ac acc.length cc) acc y [u] (impl_CheckedCards.Ok w2.heap.size Q (i + 1)) (Q i) rfl rfl ?aP ?aK ?aF ?aO ?aB ?aS ?aL ?_
              case aP => exact Kd.M_row (Kd.R_below HRU.out HB.out)
              case aK => exact fun k_ hk_ => ⟨Or.inr ⟨i, Nat.lt_succ_self i, hk_⟩, fun e_ => by have h1_ := HVB.out k_ e_.symm; have h2_ := HQ2.out i k_ hk_; omega⟩
              case aF => exact fun k_ hk_ => Or.inl (Nat.le_trans HN4.out (Nat.le_trans HB.out.size hk_))
              case aO => exact Kd.S_mono (Kd.S_below HS.out HB.out) (fun k_ hk_ => by
                rcases hk_ with h_ | ⟨j_, hj_, hq_⟩
                · exact ⟨Or.inl h_, fun h2_ => by have := HQ2.out i k_ h2_; omega⟩
                · exact ⟨Or.inr ⟨j_, Nat.lt_succ_of_lt hj_, hq_⟩, fun h2_ => by have := HQ1.out j_ i k_ hq_ h2_; omega⟩)
              case aB => exact below_step HBW.out HB.out
              case aS => exact Nat.le_trans (below_size HBW.out) (below_size HB.out)
              case aL => have := HAL.out; omega
              intro v3 w5 ho hb hg hat
              rw [← HNX.out] at ho
              have HS5 := Aside0.mk ho
              have HB5 := Aside0.mk hb
              have HG5 := Aside0.mk hg
              have HAT := Aside0.mk hat
              have HNE := Aside0.mk (Kd.S_ne (Kd.S_below HS.out HB.out) (blk_below BKc.out HB.out) (by decide))
              have BKc5 := Aside0.mk (blk_grown (blk_below BKc.out HB.out) hg HNE.out)
              have HNW := Aside0.mk (Nat.le_trans HN4.out HB.out.size)
              have HOLD1 := Aside0.mk (show ∀ k_, k_ < w2.heap.size → w1.heap[k_]? = w2.heap[k_]? from fun k_ hk_ => (HB.out.block k_ (Nat.lt_of_lt_of_le hk_ HN4.out)).trans (HOLD.out k_ hk_))
              have hold5 : ∀ k_, k_ < w2.heap.size → w5.heap[k_]? = w1.heap[k_]? := fun k_ hk_ => hg.block k_ (Nat.lt_of_lt_of_le hk_ HNW.out) (fun e_ => by have := HVB.out k_ e_.symm; omega)
              refine hK.out _ _ ⟨⟨(blk_cell BKc5.out 1).trans rfl, (blk_cell (((hold5 gp (blk_lt BKp.out)).trans (HOLD1.out gp (blk_lt BKp.out))).trans BKp.out) 1).trans rfl⟩, (blk_cell (((hold5 gP (blk_lt BKP.out)).trans (HOLD1.out gP (blk_lt BKP.out))).trans BKP.out) i).trans HU1.out⟩ (fun hHeld => ?_)
              clear hK K ho hb hg hat hold5
              refine norm_ (a' := ?_) ?_ ?_
              rotate_left
              · show Act.put _ (some 51) _ = _
                simp only [Act.put, List.setIfInBounds_toArray, List.set_cons_zero, List.set_cons_succ, i64_w, i32_w]
                rfl
              refine pure_ (i := 9) (N := some 52) (v := ?_) (a' := ?_) #[true, true, true, true, true, true, true, true, true, true, false] rfl rfl (by kernel_rfl) (fun _ _ _ h => h) (Or.inl ⟨by rfl, ?_⟩) ?_ ?_
              rotate_left
              · intro w'
                go_simp
                with_reducible rfl
              rotate_left
              · simp only [Act.put, List.setIfInBounds_toArray, List.set_cons_zero, List.set_cons_succ, i64_w, i32_w]
                rfl
              obtain ⟨A5, c5, rfl⟩ := Kd.S_slice HS5.out
              refine last_ (i := 10) (N := none) #[true, true, true, true, true, true, true, true, true, true, true] rfl rfl (by kernel_rfl) (by decide) (fun K hK => ?_)
              have hs8 : w5.cell? ⟨gc, 1, none⟩ = some (.slice Ac acc.length cc) := (blk_cell BKc5.out 1).trans rfl
              have hf8 := blk_frozen BKc5.out 1
              refine skip_ (w1 := w5.setCell ⟨gc, 1, none⟩ (.slice A5 acc2.length c5)) (by rfl) rfl ?_ ?_
              · first | (go_simp; done) | (go_simp; rfl)
              refine hK.out _ _ ?_
              clear hK K hs8 hf8
              refine done_ (by kernel_rfl) ?_
              go_wp2
              have hiq : wrap64 ((i : Int) + 1) = (((i + 1 : Nat) : Int)) := by have := HL.out; have := HG0.out.2; unfold wrap64; omega
              rw [hiq]
              have HVB5 := Aside0.mk (show ∀ k_, (Value.slice A5 acc2.length c5).ownBlock = some k_ → w2.heap.size ≤ k_ from fun k_ e_ => by
                rcases HAT.out with h_ | ⟨b_, h_, hb_⟩
                · exact HVB.out k_ (h_.symm.trans e_)
                · have e2 : some b_ = some k_ := h_.symm.trans e_
                  injection e2 with e2
                  have := HNW.out
                  omega)
              have HOLDW := Aside0.mk (show ∀ k_, k_ < w2.heap.size → w5.heap[k_]? = w2.heap[k_]? from fun k_ hk_ => by
                have h1_ := HG5.out.block k_ (Nat.lt_of_lt_of_le hk_ HNW.out) (fun e_ => by have := HVB.out k_ e_.symm; omega)
                exact h1_.trans (HOLD1.out k_ hk_))
              go_roundg k1
              case measure => have := HK1.out; omega
              case rel => exact ⟨i + 1, acc2, A5, c5, by have := HL.out; omega, rfl, ⟨by have := HK1.out; omega⟩, HX2, ⟨Kd.S_set HS5.out BKc5.out (by decide) 1 _⟩, ⟨blk_put (cs := #[.int .i64 a0, .slice Ac acc.length cc]) BKc5.out 1 _ rfl⟩, HVB5, ⟨fun k_ hk_ => (Below.heap_setCell w5 ⟨gc, 1, none⟩ _ k_ (by have := HN.out; show k_ ≠ gc; omega)).trans (HOLDW.out k_ hk_)⟩, ⟨by rw [World.size_setCell]; exact Nat.le_trans HNW.out HG5.out.size⟩, ⟨below_set HB5.out HGC.out⟩⟩
          · rw [if_neg c2] at hX2; cases hX2
        · have c1b : decide ((i : Int) < (L.length : Int)) = false := decide_eq_false c1
          have c1n : ¬ i < L.length := by omega
          have hX2 := HX.out
          rw [List.drop_eq_nil_of_le (by omega), impl_CheckedCards.mix] at hX2
          obtain rfl : acc = XS := Option.some.inj hX2
          clear c1 hX2 HX
          have BKb := Aside0.mk (blk_new wr (.cells #[.int .i64 1] 3))
          have HSI := Aside0.mk (Kd.S_alloc (Kd.S_mono HS.out (ok' := fun _ => True) (fun _ _ => trivial)) (.cells #[.int .i64 1] 3))
          have BKcI := Aside0.mk (blk_alloc BKc.out (.cells #[.int .i64 1] 3))
          have BKrI := Aside0.mk (blk_alloc ((HOLD.out w.heap.size (blk_lt BKr2.out)).trans BKr2.out) (.cells #[.int .i64 1] 3))
          have HBI := Aside0.mk (below_alloc HB.out (.cells #[.int .i64 1] 3))
          go_wp2
          generalize wr.alloc (.cells #[.int .i64 1] 3) = wI at BKb HSI BKcI BKrI HBI ⊢
          generalize wr.heap.size = b0 at BKb ⊢
          clear hzc hzp HS BKc HVB HOLD HN4 HB HK1 HI c1n c1b
          go_loopg [9] k (fun gg v9 wr => ∃ (power : Int) (bp : Nat) (xs : List (List Int)) (Ax : Option Addr) (cx : Nat), v9 = .pointer (some ⟨bp, 0, none⟩) ∧ Aside0 (gg ≤ k) ∧ Aside0 (impl_CheckedCards.fill a0 gg power xs = some YS) ∧ Aside0 (Kd.S (Kd.slice 3 (Kd.int .i64)) 46 wr w.heap.size (fun _ => True) (.slice Ax xs.length cx) xs) ∧ Aside0 (wr.heap[gc]? = some (.cells #[.int .i64 a0, .slice Ax xs.length cx] 27 (0, 0))) ∧ Aside0 (wr.heap[bp]? = some (.cells #[.int .i64 power] 3 (0, 0))) ∧ Aside0 (wr.heap[w.heap.size]? = some (.cells #[.int .i64 0, .slice none 0 0] 27 (0, 0))) ∧ Aside0 (Below w.heap.size w wr))
          case atStart => exact ⟨1, b0, acc, Ac, cc, rfl, ⟨Nat.le_refl _⟩, HY, HSI, BKcI, BKb, BKrI, HBI⟩
          case round =>
            clear BKb HSI BKcI BKrI HBI HY
            obtain ⟨power, bp, xs, Ax, cx, rfl, HK2, HY2, HS, BKc, BKb, BKr, HBW⟩ := hrel
            have hzb : wr.cell? ⟨bp, 0, none⟩ = some (.int .i64 power) := (blk_cell BKb.out 0).trans rfl
            have hzc : wr.cell? ⟨gc, 1, none⟩ = some (.slice Ax xs.length cx) := (blk_cell BKc.out 1).trans rfl
            cases gk with
            | zero => exact absurd HY2.out (by simp [impl_CheckedCards.fill])
            | succ k2 =>
              have hY2 := HY2.out
              rw [impl_CheckedCards.fill] at hY2
              by_cases c1 : power ≤ (xs.length : Int)
              · rw [if_pos c1] at hY2
                have c1b : decide (power ≤ (xs.length : Int)) = true := decide_eq_true c1
                have hg2 : (1 ≤ power ∧ xs.length ≤ 1000) ∧ (xs.all fun y => decide (y.length ≤ 1000000000)) = true := by
                  apply Classical.byContradiction; intro hn; rw [if_neg hn] at hY2; cases hY2
                rw [if_pos hg2] at hY2
                obtain ⟨pi, hpi⟩ : ∃ pi : Nat, (pi : Int) = power - 1 := ⟨(power - 1).toNat, by omega⟩
                have hw1 : wrap64 (power - 1) = (pi : Int) := by unfold wrap64; omega
                have hlt_ : pi < xs.length := by omega
                have h0_ : 0 ≤ (pi : Int) := by omega
                have h1_ : (pi : Int) < (xs.length : Int) := by omega
                rw [show (power - 1).toNat = pi by omega] at hY2
                obtain ⟨y, hy⟩ : ∃ y_, impl_cardOf.card (impl_CheckedCards.odd power xs) a0.toNat = y_ := ⟨_, rfl⟩
                rw [hy] at hY2
                obtain ⟨xs2, hxs2⟩ : ∃ z_, z_ = xs.set pi y := ⟨_, rfl⟩
                rw [← hxs2] at hY2
                have HY3 := Aside0.mk hY2
                have HXL2 := Aside0.mk (show xs2.length = xs.length by rw [hxs2, List.length_set])
                have HXS := Aside0.mk hxs2
                obtain ⟨go_, cap_, e_, hgb_, hgl_, hgc_⟩ := Kd.S_form HS.out (by omega)
                injection e_ with e1_ e2_ e3_
                subst e1_
                have HGL := Aside0.mk hgl_
                have HGBase := Aside0.mk hgb_
                have HNc := Aside0.mk (show gc ≠ go_ from fun e_ => Kd.S_ne HS.out BKc.out (by decide) (by rw [e_]; rfl))
                have HNb := Aside0.mk (show bp ≠ go_ from fun e_ => Kd.S_ne HS.out BKb.out (by decide) (by rw [e_]; rfl))
                have HNr := Aside0.mk (show w.heap.size ≠ go_ from fun e_ => Kd.S_ne HS.out BKr.out (by decide) (by rw [e_]; rfl))
                have HC := Aside0.mk (fun (W : World) (hb : Below wr.heap.size wr W) => impl_cardOf.calls 48 #[.pointer (some ⟨gc, 0, none⟩), .pointer (some ⟨bp, 0, none⟩)] (fun _ _ => rfl) (impl_CheckedCards.odd power xs) a0 (by have := HG0.out; have := HA2.out; omega) W (impl_CheckedCards.tells a0 a0 gc bp cx (some ⟨go_, 0, none⟩) xs power W (blk_below BKc.out hb) (blk_below BKb.out hb) (Kd.C_below (Kd.S_reads' HS.out).2.2 hb) (Kd.S_reads' HS.out).2.1 hg2.1.2 (fun y_ hy_ => of_decide_eq_true (List.all_eq_true.1 hg2.2 y_ hy_))))
                rw [hy] at HC
                have HCE := Aside0.mk (show wr.cell? ⟨gc, 1, none⟩ = some (.slice (some ⟨go_, 0, none⟩) xs.length cx) ∧ wr.cell? ⟨bp, 0, none⟩ = some (.int .i64 power) from ⟨hzc, hzb⟩)
                have p0 := eq_true h0_
                have q0 := eq_true h1_
                have HB := Aside0.mk (Below.refl wr.heap.size wr)
                clear hy hxs2 hgb_ hgl_ hgc_ hg2 hY2 HY2 c1 hpi e2_ e3_
                go_wp2
                clear hzb hzc
                refine start_ (n := 9) (S := fun w' => w'.cell? ⟨gc, 1, none⟩ = some (.slice (some ⟨go_, 0, none⟩) xs.length cx) ∧ w'.cell? ⟨bp, 0, none⟩ = some (.int .i64 power)) (ds := [8]) #[false, false, false, false, false, false, false, false, false] (by kernel_rfl) rfl rfl HCE.out (fun hHeld => ?_)
                replace HB := Aside0.mk (below_drew1 HB.out)
                generalize World.drew _ = w1 at HB hHeld ⊢
                refine pure_ (i := 0) (N := some 62) (v := ?_) (a' := ?_) #[true, false, false, false, false, false, false, false, false] rfl rfl (by kernel_rfl) (fun _ _ _ h => h) (Or.inl ⟨by rfl, ?_⟩) ?_ ?_
                rotate_left
                · intro w'
                  go_simp
                  with_reducible rfl
                rotate_left
                · simp only [Act.put, List.setIfInBounds_toArray, List.set_cons_zero, List.set_cons_succ, i64_w, i32_w]
                  rfl
                refine take_ (i := 1) (N := some 63) (v := ?_) (a' := ?_) #[true, true, false, false, false, false, false, false, false] rfl rfl (by kernel_rfl) (fun _ _ _ h => h) (Or.inl ⟨by rfl, ?_⟩) hHeld ?_ ?_
                rotate_left
                · rintro w' ⟨s0, s1⟩
                  go_simp
                  with_reducible rfl
                rotate_left
                · simp only [Act.put, List.setIfInBounds_toArray, List.set_cons_zero, List.set_cons_succ, i64_w, i32_w]
                  rfl
                refine take_ (i := 2) (N := some 64) (v := ?_) (a' := ?_) #[true, true, true, false, false, false, false, false, false] rfl rfl (by kernel_rfl) (fun _ _ _ h => h) (Or.inl ⟨by rfl, ?_⟩) hHeld ?_ ?_
                rotate_left
                · rintro w' ⟨s0, s1⟩
                  go_simp
                  with_reducible rfl
                rotate_left
                · simp only [Act.put, List.setIfInBounds_toArray, List.set_cons_zero, List.set_cons_succ, i64_w, i32_w]
                  rfl
                refine pure_ (i := 3) (N := some 65) (v := ?_) (a' := ?_) #[true, true, true, true, false, false, false, false, false] rfl rfl (by kernel_rfl) (fun _ _ _ h => h) (Or.inl ⟨by rfl, ?_⟩) ?_ ?_
                rotate_left
                · intro w'
                  go_simp
                  with_reducible rfl
                rotate_left
                · simp only [Act.put, List.setIfInBounds_toArray, List.set_cons_zero, List.set_cons_succ, i64_w, i32_w]
                  rfl
                refine pure_ (i := 4) (N := some 66) (v := ?_) (a' := ?_) #[true, true, true, true, true, false, false, false, false] rfl rfl (by kernel_rfl) (fun _ _ _ h => h) (Or.inl ⟨by rfl, ?_⟩) ?_ ?_
                rotate_left
                · intro w'
                  go_simp
                  with_reducible rfl
                rotate_left
                · simp only [Act.put, List.setIfInBounds_toArray, List.set_cons_zero, List.set_cons_succ, i64_w, i32_w]
                  rfl
                refine one_ (i := 5) (N := some 67) #[true, true, true, true, true, true, false, false, false] rfl rfl (by kernel_rfl) (by decide) (fun K hK => ?_)
                refine value_ (w1 := w1) (v := .func (.func 48) #[] #[.pointer (some ⟨gc, 0, none⟩), .pointer (some ⟨bp, 0, none⟩)]) (by rfl) rfl ?_ ?_
                · first | (go_simp; done) | (go_simp; rfl)
                refine hK.out _ _ hHeld (fun hHeld => ?_)
                clear hK K
                refine norm_ (a' := ?_) ?_ ?_
                rotate_left
                · show Act.put _ (some 67) _ = _
                  simp only [Act.put, List.setIfInBounds_toArray, List.set_cons_zero, List.set_cons_succ, i64_w, i32_w]
                  rfl
                refine one_ (i := 6) (N := some 68) #[true, true, true, true, true, true, true, false, false] rfl rfl (by kernel_rfl) (by decide) (fun K hK => ?_)
                refine goes_ Try.func41 (by kernel_rfl) rfl #[.int .i64 a0, .func (.func 48) #[] #[.pointer (some ⟨gc, 0, none⟩), .pointer (some ⟨bp, 0, none⟩)]] (by rfl) rfl rfl (by (try simp only [List.map_toArray, List.map_cons, List.map_nil]); first | done | rfl | (simp only [List.length_drop, List.length_take]; rfl)) ?_
                refine (HC.out w1 HB.out).mono ?_
                rintro e_ w3 ⟨v2, rfl, ho, hb⟩
                refine ⟨_, rfl, ?_⟩
                obtain ⟨A2, c2, rfl⟩ := Kd.R_slice ho
                have HGB := Aside0.mk (Kd.R_base ho)
                have HO := Aside0.mk (Kd.R_lower ho (Nat.le_trans (below_size HBW.out) (below_size HB.out)))
                have HSX := Aside0.mk (Kd.S_mono (Kd.S_old (Kd.S_below HS.out HB.out) hb) (ok' := fun k_ => True ∧ ¬ some k_ = (Value.slice A2 y.length c2).ownBlock) (fun k_ hk_ => ⟨trivial, fun e_ => by have := HGB.out k_ e_.symm; have := hk_.2; omega⟩))
                have BKc3 := Aside0.mk (blk_below (blk_below BKc.out HB.out) hb)
                have BKb3 := Aside0.mk (blk_below (blk_below BKb.out HB.out) hb)
                have BKr3 := Aside0.mk (blk_below (blk_below BKr.out HB.out) hb)
                have HB3 := Aside0.mk (below_step (below_step HBW.out HB.out) hb)
                have HSZ := Aside0.mk HB.out.size
                refine hK.out _ _ ⟨(blk_cell BKc3.out 1).trans rfl, (blk_cell BKb3.out 0).trans rfl⟩ (fun hHeld => ?_)
                clear hK K hb ho
                refine norm_ (a' := ?_) ?_ ?_
                rotate_left
                · show Act.put _ (some 68) _ = _
                  simp only [Act.put, List.setIfInBounds_toArray, List.set_cons_zero, List.set_cons_succ, i64_w, i32_w]
                  rfl
                refine pure_ (i := 7) (N := some 69) (v := ?_) (a' := ?_) #[true, true, true, true, true, true, true, true, false] rfl rfl (by kernel_rfl) (fun _ _ _ h => h) (Or.inl ⟨by rfl, ?_⟩) ?_ ?_
                rotate_left
                · intro w'
                  go_simp
                  with_reducible rfl
                rotate_left
                · simp only [Act.put, List.setIfInBounds_toArray, List.set_cons_zero, List.set_cons_succ, i64_w, i32_w]
                  rfl
                obtain ⟨oki, ce, hcl, hM, hcc, hfr, hoki, hH⟩ := Kd.S_elem HSX.out [] (pi : Int) h0_ h1_
                obtain ⟨ve, rfl, ge_⟩ := hM
                have HPS := Kd.S_seg (ok := fun _ => True) (okg := fun k_ => some k_ = (Value.slice A2 y.length c2).ownBlock) hH h0_ h1_ (seg := [.slice A2 y.length c2]) (j := 0) (show 1 ≤ 1 from by decide) (x' := y) (okp := fun k_ => oki k_ ∨ some k_ = (Value.slice A2 y.length c2).ownBlock) (Kd.M_row (Kd.R_mono (Kd.R_tight rfl HO.out) (fun _ h_ => Or.inr h_))) (fun _ hk => hk) (fun k_ hk_ => ⟨trivial, fun e_ => by have := HGB.out k_ hk_.symm; have := HSZ.out; have := HGL.out; omega⟩)
                have hx0 : w3.cell? ⟨go_, pi, none⟩ = some ve := by
                  have h_ := hcc 0 _ rfl
                  simp only [show (Kd.slice 3 (Kd.int .i64)).sz = 1 from rfl, Nat.mul_one, Nat.add_zero, Int.toNat_natCast] at h_
                  exact h_
                have hf0 : w3.frozen? ⟨go_, pi, none⟩ = false := by
                  have h_ := hfr 0
                  simp only [show (Kd.slice 3 (Kd.int .i64)).sz = 1 from rfl, Nat.mul_one, Nat.add_zero, Int.toNat_natCast] at h_
                  exact h_
                have HS5 := Aside0.mk (show Kd.S (Kd.slice 3 (Kd.int .i64)) 46 (w3.setCell ⟨go_, pi, none⟩ (.slice A2 y.length c2)) w.heap.size (fun _ => True) (.slice (some ⟨go_, 0, none⟩) xs2.length cx) xs2 from by
                  rw [HXL2.out, HXS.out]
                  have h_ := HPS.1
                  simp only [show (Kd.slice 3 (Kd.int .i64)).sz = 1 from rfl, Nat.mul_one, Nat.add_zero, Int.toNat_natCast] at h_
                  exact h_)
                have BKc5 := Aside0.mk (blk_far BKc3.out (p := ⟨go_, pi, none⟩) HNc.out (.slice A2 y.length c2))
                have BKb5 := Aside0.mk (blk_far BKb3.out (p := ⟨go_, pi, none⟩) HNb.out (.slice A2 y.length c2))
                have BKr5 := Aside0.mk (blk_far BKr3.out (p := ⟨go_, pi, none⟩) HNr.out (.slice A2 y.length c2))
                have HB5 := Aside0.mk (below_set (g := go_) (j := pi) (v := .slice A2 y.length c2) HB3.out HGBase.out)
                clear hcl hcc hfr hoki hH HPS ge_
                refine last_ (i := 8) (N := none) #[true, true, true, true, true, true, true, true, true] rfl rfl (by kernel_rfl) (by decide) (fun K hK => ?_)
                refine skip_ (w1 := w3.setCell ⟨go_, pi, none⟩ (.slice A2 y.length c2)) (by rfl) rfl ?_ ?_
                · first | (go_simp; done) | (go_simp; rfl)
                refine hK.out _ _ ?_
                clear hK K hx0 hf0
                refine done_ (by kernel_rfl) ?_
                generalize w3.setCell ⟨go_, pi, none⟩ (.slice A2 y.length c2) = w5 at HS5 BKc5 BKb5 BKr5 HB5 ⊢
                have hzb5 : w5.cell? ⟨bp, 0, none⟩ = some (.int .i64 power) := (blk_cell BKb5.out 0).trans rfl
                go_wp2
                go_roundg k2
                case measure => have := HK2.out; omega
                case rel => exact ⟨wrap64 (power * 2), w5.heap.size, xs2, some ⟨go_, 0, none⟩, cx, rfl, ⟨by have := HK2.out; omega⟩, HY3, ⟨Kd.S_alloc HS5.out _⟩, ⟨by rw [HXL2.out]; exact blk_alloc BKc5.out _⟩, ⟨blk_new w5 _⟩, ⟨blk_alloc BKr5.out _⟩, ⟨below_alloc HB5.out _⟩⟩
              · rw [if_neg c1] at hY2
                obtain rfl : xs = YS := Option.some.inj hY2
                have c1b : decide (power ≤ (xs.length : Int)) = false := decide_eq_false c1
                clear c1 hY2 HY2
                have hs0 : wr.cell? ⟨gc, 0, none⟩ = some (.int .i64 a0) := (blk_cell BKc.out 0).trans rfl
                have hf0 := blk_frozen BKr.out 0
                have hf1 := blk_frozen BKr.out 1
                have hr0 : wr.cell? ⟨w.heap.size, 0, none⟩ = some (.int .i64 0) := (blk_cell BKr.out 0).trans rfl
                have hr1 : wr.cell? ⟨w.heap.size, 1, none⟩ = some (.slice none 0 0) := (blk_cell BKr.out 1).trans rfl
                go_wp2
                refine bodyPost_ret (results_ct rfl _ _ w.heap.size 27 #[.int .i64 a0, .slice Ax xs.length cx] (0, 0) _ rfl ?_ Try.underlying27 rfl (by kernel_rfl)) rfl ?_
                · refine blk_put (cs := #[.int .i64 a0, .slice none 0 0]) ?_ 1 _ rfl
                  refine blk_put (cs := #[.int .i64 0, .slice none 0 0]) ?_ 0 _ rfl
                  exact BKr.out
                · exact ⟨_, rfl, Kd.S_mono (Kd.S_far (p := ⟨w.heap.size, 1, none⟩) (Kd.S_far (p := ⟨w.heap.size, 0, none⟩) (Kd.S_types HS.out BKr.out (by decide)) (fun _ hk => hk.2) _) (fun _ hk => hk.2) _) (fun _ hk => trivial), below_set (below_set HBW.out (Nat.le_refl _)) (Nat.le_refl _)⟩

end Go.Proofs.Ytpekdmadmggbpaa.Cc
