/- Functions of the program and of the reference as Lean functions, and the contracts of their calls: laid by a program of this repo (wip/gen.py), in part by hand. -/
import Derived.Test.YtlkgojgmgdeieaaGx0
import Derived.Test.YtlkgojgmgdeieaaGx4
import Derived.Test.YtlkgojgmgdeieaaGx6
namespace Go.Proofs.Ytlkgojgmgdeieaa.G
open Go.RowKit Go.Proofs.YtlkgojgmgdeieaaW.PrintWords Go.Proofs.YtlkgojgmgdeieaaW.PrintLast Go.Proofs.YtlkgojgmgdeieaaW.PrintMore
attribute [local go_sem] max2_int min2_int max_two min_two max_three min_three max_four min_four   -- for this text's walks alone
set_option linter.unusedVariables false
set_option linter.unusedSimpArgs false

/-! ### impl_lengths: function 58 -/
theorem impl_lengths.M.C_cells {w : World} {A0 : Option Addr} {l0 : List Int} (h : Kd.C (Kd.int .i64) w A0 l0.length l0) (hp : 0 < l0.length) :
    ∃ b off, A0 = some ⟨b, off, none⟩ ∧ b < w.heap.size ∧ ∀ j, j < l0.length → w.cell? ⟨b, off + j, none⟩ = some (.int .i64 (l0.getD j 0)) := by
  obtain ⟨ad, rfl, h0⟩ := Kd.at_int h 0 (by omega) (by omega)
  have hs : ad.spot = none := by
    cases hsp : ad.spot with
    | none => rfl
    | some x =>
      simp only [Int.toNat_zero, Addr.add, if_true, World.cell?] at h0
      split at h0
      · simp [hsp] at h0
      · cases h0
  have hlt := World.block_lt_of_cell? w _ h0
  rw [add_block] at hlt
  obtain ⟨b, off, sp⟩ := ad
  simp only at hs hlt
  subst hs
  refine ⟨b, off, rfl, hlt, fun j hj => ?_⟩
  obtain ⟨ad', e', hc⟩ := Kd.at_int h (j : Int) (by omega) (by omega)
  cases e'
  rw [Int.toNat_natCast] at hc
  have e : (⟨b, off, none⟩ : Addr).add j = ⟨b, off + j, none⟩ := by
    unfold Addr.add
    by_cases hj0 : j = 0
    · subst hj0; rfl
    · rw [if_neg hj0]
  rw [e] at hc
  exact hc
/-- One more of a difference. -/
def impl_lengths.M.bump (T : List Int) (d : Int) : List Int := T.set d.toNat (wrap64 (rd T d + 1))
def impl_lengths.M.row (a : Int) (T : List Int) (bs : List Int) : List Int := bs.foldl (fun T b => impl_lengths.M.bump T (wrap64 (a - b))) T
def impl_lengths.M.rows (l0 : List Int) (i : Nat) : List Int := (List.range i).foldl (fun T (i : Nat) => impl_lengths.M.row (rd l0 (i : Int)) T (l0.take i)) (List.replicate 61 0)
def impl_lengths.M.ms (l0 : List Int) : List Int := impl_lengths.M.rows l0 l0.length
theorem impl_lengths.M.bump_length (T : List Int) (d : Int) : (impl_lengths.M.bump T d).length = T.length := by simp [impl_lengths.M.bump]
theorem impl_lengths.M.row_length (a : Int) (bs : List Int) : ∀ T, (impl_lengths.M.row a T bs).length = T.length := by
  induction bs with
  | nil => intro T; rfl
  | cons b t ih => intro T; show (impl_lengths.M.row a (impl_lengths.M.bump T _) t).length = _; rw [ih, impl_lengths.M.bump_length]
theorem impl_lengths.M.rows_length (l0 : List Int) (i : Nat) : (impl_lengths.M.rows l0 i).length = 61 := by
  unfold impl_lengths.M.rows
  suffices ∀ (is : List Nat) (T : List Int), (is.foldl (fun T (i : Nat) => impl_lengths.M.row (rd l0 (i : Int)) T (l0.take i)) T).length = T.length by rw [this]; simp
  intro is
  induction is with
  | nil => intro T; rfl
  | cons b t ih => intro T; rw [List.foldl_cons, ih, impl_lengths.M.row_length]
theorem impl_lengths.M.row_snoc (a : Int) (T bs : List Int) (b : Int) : impl_lengths.M.row a T (bs ++ [b]) = impl_lengths.M.bump (impl_lengths.M.row a T bs) (wrap64 (a - b)) := by simp [impl_lengths.M.row]
theorem impl_lengths.M.rows_succ (l0 : List Int) (i : Nat) : impl_lengths.M.rows l0 (i + 1) = impl_lengths.M.row (rd l0 (i : Int)) (impl_lengths.M.rows l0 i) (l0.take i) := by unfold impl_lengths.M.rows; rw [List.range_succ, List.foldl_append]; rfl
/-- The result's variable and the table, in the two blocks that the call lays. -/
def impl_lengths.M.St (s : Nat) (w0 W : World) (T : List Int) : Prop :=
  (∃ Z : Array Value, Z.size = 61 ∧ W.heap[s]? = some (.cells Z 38 (0, 0))) ∧ T.length = 61 ∧ W.heap[s + 1]? = some (.cells (T.map (Value.int .i64)).toArray 38 (0, 0)) ∧ Below s w0 W
theorem impl_lengths.M.St.cell {s : Nat} {w0 W : World} {T : List Int} (h : impl_lengths.M.St s w0 W T) (d : Int) (h0 : 0 ≤ d) (h1 : d ≤ 60) :
    W.cell? ⟨s + 1, d.toNat, none⟩ = some (.int .i64 (rd T d)) ∧ W.frozen? ⟨s + 1, d.toNat, none⟩ = false := by
  obtain ⟨_, hl, h, _⟩ := h
  refine ⟨?_, frozen_of_row W _ _ _ _ h⟩
  rw [cell_of_row W _ _ _ _ _ h]
  have : d.toNat < T.length := by omega
  simp [rd, this]
theorem impl_lengths.M.St.bump {s : Nat} {w0 W : World} {T : List Int} (h : impl_lengths.M.St s w0 W T) (d : Int) : impl_lengths.M.St s w0 (W.setCell ⟨s + 1, d.toNat, none⟩ (.int .i64 (wrap64 (rd T d + 1)))) (impl_lengths.M.bump T d) := by
  obtain ⟨⟨Z, hz, h0⟩, hl, h1, hb⟩ := h
  refine ⟨⟨Z, hz, ?_⟩, by rw [impl_lengths.M.bump_length]; exact hl, ?_, hb.setCell (by show s ≤ s + 1; omega) _⟩
  · rw [heap_setCell_other _ _ _ _ (by show s ≠ s + 1; omega)]; exact h0
  · rw [heap_setCell_same _ _ _ _ _ _ h1]
    simp [impl_lengths.M.bump, List.map_set]
theorem impl_lengths.M.St.drew {s : Nat} {w0 W : World} {T : List Int} (h : impl_lengths.M.St s w0 W T) : impl_lengths.M.St s w0 W.drew T := ⟨h.1, h.2.1, h.2.2.1, below_drew h.2.2.2⟩
theorem impl_lengths.M.zero38 : (Try.prog.info? 38).map (fun i => (i.zero, i.size)) = some (some (.agg ((List.replicate 61 0).map (Value.int .i64)).toArray), 61) := by kernel_rfl
theorem impl_lengths.M.built38 : Try.prog.built 38 [] = some ((List.replicate 61 0).map (Value.int .i64)).toArray := by kernel_rfl
theorem impl_lengths.M.info38 : (Try.prog.info? 38).map (·.size) = some 61 := by kernel_rfl
theorem impl_lengths.M.und38 : Try.prog.underlying 38 = some (.array 61 3) := by kernel_rfl
theorem impl_lengths.M.St.load {s : Nat} {w0 W : World} {T : List Int} (h : impl_lengths.M.St s w0 W T) : (loadCellsFrom ⟨s + 1, 0, none⟩ 0 61 #[]).run Try.prog W = .ok (T.map (Value.int .i64)).toArray W := by
  obtain ⟨_, hl, h, _⟩ := h
  have := run_loadCells_list (P := Try.prog) W ⟨s + 1, 0, none⟩ (T.map (Value.int .i64)) (fun j v hv => by
    have hadd : (⟨s + 1, 0, none⟩ : Addr).add j = ⟨s + 1, j, none⟩ := by unfold Addr.add; split <;> simp_all
    rw [hadd, cell_of_row _ _ j _ 38 (0, 0) h]
    simpa using hv)
  simpa [loadCells, hl] using this
theorem impl_lengths.M.St.store {s : Nat} {w0 W : World} {T : List Int} (h : impl_lengths.M.St s w0 W T) :
    (storeCells ⟨s, 0, none⟩ (T.map (Value.int .i64)).toArray.toList 0).run Try.prog W = .ok () (W.setRow s (T.map (Value.int .i64)).toArray) := by
  obtain ⟨⟨Z, hz, h0⟩, hl, h, _⟩ := h
  have := run_storeVar_row (P := Try.prog) W s 38 38 Z (T.map (Value.int .i64)).toArray h0 (by rw [impl_lengths.M.info38]; simp [hl]) (by simp [hz, hl]) (by simp [Value.oneCell'])
  cases hq : Try.prog.info? 38 with
  | none => have e := impl_lengths.M.info38; rw [hq] at e; cases e
  | some i =>
    have e := impl_lengths.M.info38
    rw [hq] at e
    have hs : i.size = 61 := by simpa using e
    simpa [storeVar, sizeOf, typeInfo, hq, Value.cells, hs, hl] using this
theorem impl_lengths.M.St.after {s : Nat} {w0 W : World} {T : List Int} (h : impl_lengths.M.St s w0 W T) : Below s w0 (W.setRow s (T.map (Value.int .i64)).toArray) ∧
    (W.setRow s (T.map (Value.int .i64)).toArray).heap[s]? = some (.cells (T.map (Value.int .i64)).toArray 38 (0, 0)) := by
  obtain ⟨⟨Z, hz, h0⟩, hl, _, hb⟩ := h
  exact ⟨⟨hb.os, hb.tape, hb.output, by rw [size_setRow]; exact hb.size, fun k hk => by rw [setRow_other _ _ _ _ (by omega)]; exact hb.block k hk⟩, setRow_heap _ _ _ _ _ _ h0⟩
attribute [-go_sem] loadCellsFrom in
set_option maxRecDepth 100000 in
set_option maxHeartbeats 4000000 in
theorem impl_lengths.M.calls (A0 : Option Addr) (c0 : Nat) (l0 : List Int)  (w : World) (hr0 : Kd.C (Kd.int .i64) w A0 l0.length l0) (hc0 : l0.length ≤ c0) (hlen : l0.length ≤ 1000) (hpos : 0 < l0.length)
     (hd : ∀ i, i < l0.length → ∀ j, j < i → 0 ≤ wrap64 (rd l0 (i : Int) - rd l0 (j : Int)) ∧ wrap64 (rd l0 (i : Int) - rd l0 (j : Int)) ≤ 60) :
    Calls Try.prog 52 #[.slice A0 l0.length c0] w fun e w' => e = .returned (.agg ((impl_lengths.M.ms l0).map (Value.int .i64)).toArray) ∧ Below w.heap.size w w' := by
  obtain ⟨b, off, rfl, hbw, hcell⟩ := impl_lengths.M.C_cells hr0 hpos
  have HC := Aside0.mk hcell
  have HD := Aside0.mk hd
  clear hr0 hcell hd
  have hz0 := (zero_of_info impl_lengths.M.zero38).1
  have hb0 : ∀ w, (Instr.build 38 #[]).run Try.prog w = .ok (.agg ((List.replicate 61 0).map (Value.int .i64)).toArray) w := fun w => run_build w 38 #[] _ impl_lengths.M.built38
  have hst0 := fun (w : World) => run_storeCells_new (P := Try.prog) w 38 ((List.replicate 61 0).map (Value.int .i64)).toArray ((List.replicate 61 0).map (Value.int .i64)).toArray (by rw [impl_lengths.M.info38]; simp) rfl (by simp [Value.oneCell'])
  have hS0 : impl_lengths.M.St w.heap.size w ((w.alloc (.cells ((List.replicate 61 0).map (Value.int .i64)).toArray 38)).alloc (.cells ((List.replicate 61 0).map (Value.int .i64)).toArray 38)) (impl_lengths.M.rows l0 0) :=
    ⟨⟨_, by simp, heap_alloc2_old _ _ _⟩, by simp [impl_lengths.M.rows_length], heap_alloc2_new _ _ _, ((Below.refl _ w).alloc (Nat.le_refl _) _).alloc (by simp) _⟩
  have hZs : ((List.replicate 61 0).map (Value.int .i64)).toArray.size = 61 := by simp
  generalize hZ : ((List.replicate 61 0).map (Value.int .i64)).toArray = Z at hz0 hb0 hst0 hS0 hZs
  have hst1 := hst0 (w.alloc (.cells Z 38))
  simp only [World.size_alloc] at hst1
  have HS := Aside0.mk hS0
  clear hZ hst0 hS0
  go_enter Try.func52, Try.ntmps52
  go_wp2
  go_loopw [11] (fun v11 wr => ∃ i : Nat, v11 = .int .i64 (i : Int) ∧ Aside0 (i ≤ l0.length) ∧ Aside0 (impl_lengths.M.St w.heap.size w wr (impl_lengths.M.rows l0 i))) (fun v11 _ => ((l0.length : Int) - intOf v11).toNat)
  case atStart => exact ⟨0, rfl, ⟨Nat.zero_le _⟩, HS⟩
  case round =>
    clear hz0 hb0 hst1 HS hZs
    obtain ⟨i, rfl, HI, HS⟩ := hrel
    by_cases hi : i < l0.length
    · have hcb : decide ((i : Int) < (l0.length : Int)) = true := decide_eq_true (by omega)
      obtain ⟨a, ha⟩ : ∃ a : Int, rd l0 (i : Int) = a := ⟨_, rfl⟩
      have hx : wr.cell? ⟨b, off + i, none⟩ = some (.int .i64 a) := by rw [← ha]; exact (HS.out.2.2.2.cell (p := ⟨b, off + i, none⟩) hbw).trans (HC.out i hi)
      have HA := Aside0.mk ha
      clear ha
      have hn : (0 : Int) ≤ i ∧ (i : Int) < (l0.length : Int) := by omega
      have hic : i ≤ c0 := by omega
      go_wp2
      have HS0 : Aside0 (impl_lengths.M.St w.heap.size w wr (impl_lengths.M.row (rd l0 (i : Int)) (impl_lengths.M.rows l0 i) ((l0.take i).take 0))) := ⟨HS.out⟩
      clear hx
      go_loopw [20] (fun v20 wr => ∃ j : Nat, v20 = .int .i64 (j : Int) ∧ Aside0 (j ≤ i) ∧ Aside0 (impl_lengths.M.St w.heap.size w wr (impl_lengths.M.row (rd l0 (i : Int)) (impl_lengths.M.rows l0 i) ((l0.take i).take j)))) (fun v20 _ => ((i : Int) - intOf v20).toNat)
      case atStart => exact ⟨0, rfl, ⟨Nat.zero_le _⟩, HS0⟩
      case round =>
        clear HS0
        obtain ⟨j, rfl, HJ, HS⟩ := hrel
        by_cases hj : j < i
        · have hcb2 : decide ((j : Int) < (i : Int)) = true := decide_eq_true (by omega)
          obtain ⟨y, hy⟩ : ∃ y : Int, rd l0 (j : Int) = y := ⟨_, rfl⟩
          have hx : wr.cell? ⟨b, off + j, none⟩ = some (.int .i64 y) := by rw [← hy]; exact (HS.out.2.2.2.cell (p := ⟨b, off + j, none⟩) hbw).trans (HC.out j (by omega))
          have hn2 : (0 : Int) ≤ j ∧ (j : Int) < (i : Int) := by omega
          obtain ⟨d, hd⟩ : ∃ d : Int, wrap64 (a - y) = d := ⟨_, rfl⟩
          have HDD := HD.out i hi j hj
          rw [hy, HA.out, hd] at HDD
          obtain ⟨hd0, hd1⟩ := HDD
          obtain ⟨hxt, hft⟩ := HS.out.cell d hd0 hd1
          have hdw : IntKind.i64.wrap (a - y) = d := (i64_w _).trans hd
          have hd2 : d < 61 := by omega
          have HS1 : Aside0 (impl_lengths.M.St w.heap.size w (wr.setCell ⟨w.heap.size + 1, d.toNat, none⟩ (.int .i64 (wrap64 (rd (impl_lengths.M.row (rd l0 (i : Int)) (impl_lengths.M.rows l0 i) ((l0.take i).take j)) d + 1)))) (impl_lengths.M.row (rd l0 (i : Int)) (impl_lengths.M.rows l0 i) ((l0.take i).take (j + 1)))) := ⟨by
            have e : (l0.take i).take (j + 1) = (l0.take i).take j ++ [rd l0 (j : Int)] := by
              have hjl : j < (l0.take i).length := by simp; omega
              rw [List.take_succ_eq_append_getElem hjl, List.getElem_take, show rd l0 (j : Int) = l0[j] by simp [rd, show j < l0.length by omega]]
            rw [e, impl_lengths.M.row_snoc, show wrap64 (rd l0 (i : Int) - rd l0 (j : Int)) = d by rw [hy, HA.out, hd]]
            exact HS.out.bump d⟩
          have HY := Aside0.mk hy
          clear hy
          generalize impl_lengths.M.row (rd l0 (i : Int)) (impl_lengths.M.rows l0 i) ((l0.take i).take j) = T at hxt HS1 HS
          obtain ⟨t, ht⟩ : ∃ t : Int, rd T d = t := ⟨_, rfl⟩
          rw [ht] at hxt HS1
          clear ht
          go_wp2
          exact ⟨⟨j + 1, by rw [Int.natCast_succ], ⟨by omega⟩, HS1⟩, by simp only [intOf]; omega⟩
        · have hcb2 : decide ((j : Int) < (i : Int)) = false := decide_eq_false (by omega)
          have hji : j = i := by have := HJ.out; omega
          have HS1 : Aside0 (impl_lengths.M.St w.heap.size w wr (impl_lengths.M.rows l0 (i + 1))) := ⟨by
            have := HS.out
            rw [hji, List.take_of_length_le (by simp; omega)] at this
            rw [impl_lengths.M.rows_succ]; exact this⟩
          clear hji HS
          go_wp2
          exact ⟨⟨i + 1, by rw [Int.natCast_succ], ⟨by omega⟩, HS1⟩, by simp only [intOf]; omega⟩
    · have hcb : decide ((i : Int) < (l0.length : Int)) = false := decide_eq_false (by omega)
      have hli : i = l0.length := by have := HI.out; omega
      have HS1 : Aside0 (impl_lengths.M.St w.heap.size w wr (impl_lengths.M.ms l0)) := ⟨by have := HS.out; rw [hli] at this; exact this⟩
      clear hli HS
      obtain ⟨hB, hg2⟩ := HS1.out.after
      have HB := Aside0.mk hB
      have HG := Aside0.mk hg2
      clear hB hg2
      have hl1 := HS1.out.load
      have hst := HS1.out.store
      have hsz : ((impl_lengths.M.ms l0).map (Value.int .i64)).toArray.size = 61 := by simp [impl_lengths.M.ms, impl_lengths.M.rows_length]
      have HZ := Aside0.mk hsz
      generalize hR : ((impl_lengths.M.ms l0).map (Value.int .i64)).toArray = R at *
      have HR := Aside0.mk hR
      clear hR
      generalize wr.setRow w.heap.size R = W2 at *
      go_wp2
      refine bodyPost_ret (v := .agg R) ?_ rfl ⟨by rw [HR.out], HB.out⟩
      exact results_cell_row rfl _ _ w.heap.size 38 R (0, 0) _ rfl HG.out impl_lengths.M.und38 rfl (by rw [impl_lengths.M.info38, HZ.out])

def impl_lengths.M.fit (l0 : List Int) : Prop := (l0.length ≤ 1000 ∧ 0 < l0.length) ∧ ∀ i, i < l0.length → ∀ j, j < i → 0 ≤ wrap64 (rd l0 (i : Int) - rd l0 (j : Int)) ∧ wrap64 (rd l0 (i : Int) - rd l0 (j : Int)) ≤ 60
instance impl_lengths.M.dec (l0 : List Int) : Decidable (impl_lengths.M.fit l0) := by unfold impl_lengths.M.fit; infer_instance
def impl_lengths.M.pick (T : List Int) (m : Bool) (k : Nat) : List Int := ((List.range k).map (fun (j : Nat) => (j : Int) + 1)).filter (fun n => decide (0 < rd T n) == m)
theorem impl_lengths.M.pick_succ (T : List Int) (m : Bool) (k : Nat) : impl_lengths.M.pick T m (k + 1) = impl_lengths.M.pick T m k ++ (if (decide (0 < rd T ((k : Int) + 1)) == m) = true then [(k : Int) + 1] else []) := by
  unfold impl_lengths.M.pick
  rw [List.range_succ, List.map_append, List.filter_append]
  simp only [List.map_cons, List.map_nil, List.filter_cons, List.filter_nil]
theorem impl_lengths.M.pick_length (T : List Int) (m : Bool) (k : Nat) : (impl_lengths.M.pick T m k).length ≤ k := by
  unfold impl_lengths.M.pick
  exact Nat.le_trans (List.length_filter_le _ _) (by simp)
def impl_lengths.f (l0 : List Int) (a1 : Bool) : Option (List Int) := if impl_lengths.M.fit l0 then (if rd l0 ((l0.length : Int) - 1) ≤ 60 then some (impl_lengths.M.pick (impl_lengths.M.ms l0) a1 (rd l0 ((l0.length : Int) - 1)).toNat) else none) else none
attribute [-go_sem] loadCellsFrom in
set_option maxRecDepth 100000 in
set_option maxHeartbeats 4000000 in
theorem impl_lengths.calls (A0 : Option Addr) (c0 : Nat) (l0 : List Int) (a1 : Bool) (r : List Int) (w : World) (hr0 : Kd.C (Kd.int .i64) w A0 l0.length l0) (hc0 : l0.length ≤ c0) (h : impl_lengths.f l0 a1 = some r) :
    Calls Try.prog 58 #[.slice A0 l0.length c0, .bool a1] w fun e w' => ∃ v0_ : Value, e = .returned v0_ ∧ Kd.R (Kd.int .i64) 3 w' w.heap.size (fun _ => True) v0_ r ∧ Below w.heap.size w w' := by
  have hfit : impl_lengths.M.fit l0 := by
    apply Classical.byContradiction; intro hn; simp [impl_lengths.f, hn] at h
  have h60 : rd l0 ((l0.length : Int) - 1) ≤ 60 := by
    apply Classical.byContradiction; intro hn; simp [impl_lengths.f, hfit, hn] at h
  have hr : r = impl_lengths.M.pick (impl_lengths.M.ms l0) a1 (rd l0 ((l0.length : Int) - 1)).toNat := by
    unfold impl_lengths.f at h; rw [if_pos hfit, if_pos h60] at h; exact (Option.some.inj h).symm
  clear h
  have HRR := Aside0.mk hr
  clear hr
  obtain ⟨⟨hl1, hl2⟩, hd⟩ := hfit
  have HR0 := Aside0.mk hr0
  have HC0 := Aside0.mk hc0
  have HD := Aside0.mk hd
  clear hd hr0
  obtain ⟨top, htop⟩ : ∃ t : Int, rd l0 ((l0.length : Int) - 1) = t := ⟨_, rfl⟩
  rw [htop] at h60
  have HT := Aside0.mk htop
  have hlen : impl_length.f l0 = some top := by
    have e1 : wrap64 ((l0.length : Int) - 1) = (l0.length : Int) - 1 := by unfold wrap64; omega
    unfold impl_length.f
    rw [e1, if_pos (by omega), if_pos (by omega), htop]
  have HLN := Aside0.mk hlen
  clear htop hlen
  have hz0 := (zero_of_info impl_lengths.M.zero38).1
  have hst0 := fun (w : World) => run_storeCells_new (P := Try.prog) w 38 ((List.replicate 61 0).map (Value.int .i64)).toArray ((impl_lengths.M.ms l0).map (Value.int .i64)).toArray (by rw [impl_lengths.M.info38]; simp [impl_lengths.M.ms, impl_lengths.M.rows_length]) (by simp [impl_lengths.M.ms, impl_lengths.M.rows_length]) (by simp [Value.oneCell'])
  have hZs : ((impl_lengths.M.ms l0).map (Value.int .i64)).toArray.size = 61 := by simp [impl_lengths.M.ms, impl_lengths.M.rows_length]
  generalize ((List.replicate 61 0).map (Value.int .i64)).toArray = Z at hz0 hst0
  obtain ⟨R, hR⟩ : ∃ R, ((impl_lengths.M.ms l0).map (Value.int .i64)).toArray = R := ⟨_, rfl⟩
  rw [hR] at hst0 hZs
  have HRT := Aside0.mk hR
  clear hR
  have HK : ∀ w1, w.heap.size ≤ w1.heap.size → Below w.heap.size w w1 → Calls Try.prog 52 #[.slice A0 l0.length c0] w1 fun e w' => e = .returned (.agg R) ∧ Below w1.heap.size w1 w' := fun w1 _ hb => by
    have := impl_lengths.M.calls A0 c0 l0 w1 (Kd.C_below HR0.out hb) HC0.out hl1 hl2 HD.out
    rw [HRT.out] at this
    exact this
  have HKK := Aside0.mk HK
  clear HK
  have hown : Kd.R (Kd.int .i64) 3 (w.alloc (.cells #[] 3)) w.heap.size (fun k => k < w.heap.size + 1) (.slice (some ⟨w.heap.size, 0, none⟩) 0 0) [] := by
    have := own_lit w w.heap.size 3 .i64 [] (Nat.le_refl _) (by simp)
    refine ⟨fun k hk => ?_, [], this, rfl, fun j p hj => by simp at hj⟩
    have : w.heap.size = k := by simpa [Value.ownBlock] using hk
    omega
  have HOWN := Aside0.mk hown
  clear hown
  go_enter Try.func58, Try.ntmps58
  go_wp2_with (first | (go_at_call 52; refine (HKK.out _ (by simp) ((Below.refl _ w).alloc (Nat.le_refl _) _)).mono ?_; rintro e w2 ⟨rfl, hb2⟩; have hst1 := hst0 w2; have HB2 := Aside0.mk hb2; clear hb2))
  have hg0 : (w2.alloc (.cells R 38)).heap[w2.heap.size]? = some (.cells R 38 (0, 0)) := heap_alloc_last _ _
  have hsz2 : w.heap.size + 1 ≤ w2.heap.size := by have := HB2.out.size; simpa using this
  have hB0 : Below w.heap.size w (w2.alloc (.cells R 38)) := by
    have h1 : Below w.heap.size w (w.alloc (.cells #[] 3)) := (Below.refl _ w).alloc (Nat.le_refl _) _
    exact (below_step h1 (HB2.out)).alloc (by omega) _
  have HO := Aside0.mk (Kd.R_mono (Kd.R_alloc (Kd.R_below HOWN.out HB2.out) (.cells R 38)) (ok' := fun k => k ≠ w2.heap.size) (fun k hk => by omega))
  have HB := Aside0.mk hB0
  have HG := Aside0.mk hg0
  clear hB0 hg0 hz0 hst0 hst1 HOWN HB2 hZs
  go_loopw [5, 7] (fun v5 v7 wr => ∃ (j : Nat) (n : Int), v7 = .int .i64 n ∧ Aside0 (n = (j : Int) + 1) ∧ Aside0 (j ≤ top.toNat) ∧ Aside0 (Kd.R (Kd.int .i64) 3 wr w.heap.size (fun k => k ≠ w2.heap.size) v5 (impl_lengths.M.pick (impl_lengths.M.ms l0) a1 j)) ∧ Aside0 (wr.heap[w2.heap.size]? = some (.cells R 38 (0, 0))) ∧ Aside0 (w2.heap.size < wr.heap.size) ∧ Aside0 (Below w.heap.size w wr)) (fun _ v7 _ => (61 - intOf v7).toNat)
  case atStart => exact ⟨0, 1, rfl, ⟨rfl⟩, ⟨Nat.zero_le _⟩, HO, HG, ⟨by simp⟩, HB⟩
  case round =>
    clear HO HB HG
    obtain ⟨j, n, rfl, HN, HJ, HO, HG, HSZ, HB⟩ := hrel
    by_cases hc : n ≤ top
    · have hcb : decide (n ≤ top) = true := decide_eq_true hc
      have hn0 : 0 ≤ n := by have := HN.out; omega
      have hn1 : n < 61 := by omega
      have hnn : (0 : Int) ≤ n ∧ n < 61 := ⟨hn0, hn1⟩
      obtain ⟨x, hx⟩ : ∃ x : Int, rd (impl_lengths.M.ms l0) n = x := ⟨_, rfl⟩
      have hcell : wr.cell? ⟨w2.heap.size, n.toNat, none⟩ = some (.int .i64 x) := by
        rw [cell_of_row _ _ _ _ _ _ HG.out, ← HRT.out]
        have : n.toNat < (impl_lengths.M.ms l0).length := by rw [impl_lengths.M.ms, impl_lengths.M.rows_length]; omega
        rw [← hx]
        simp [rd, this]
      have HX := Aside0.mk hx
      clear hx
      have hsucc : n + 1 ≤ 61 := by omega
      by_cases hm : (decide (0 < x) == a1) = true
      · have hm1 : decide (decide (0 < x) = a1) = true := by simpa using hm
        have Hp : Aside0 (impl_lengths.M.pick (impl_lengths.M.ms l0) a1 (j + 1) = impl_lengths.M.pick (impl_lengths.M.ms l0) a1 j ++ [n]) := ⟨by
          rw [impl_lengths.M.pick_succ, ← HN.out, HX.out, if_pos hm]⟩
        have HL : Aside0 ((impl_lengths.M.pick (impl_lengths.M.ms l0) a1 j).length ≤ 61) := ⟨by
          have := impl_lengths.M.pick_length (impl_lengths.M.ms l0) a1 j
          have := HJ.out
          omega⟩
        go_wp2_with (first | (go_at_call 54; refine (impl_length.calls _ c0 l0 top _ (Kd.C_below HR0.out HB.out) HC0.out HLN.out).mono ?_; rintro e w' ⟨rfl, ⟨nd, rfl⟩⟩) | ((with_reducible refine gate_builtin (b := .append) (xs := #[.tmp 23, .tmp 25]) rfl ?_); at_builtin; refine Kd.R_append (Kd.int .i64) (w0 := w) w.heap.size rfl (.tmp 23) (.tmp 25) 22 3 (.int .i64 0) 8 rfl Try.underlying22 info3 rfl (by decide) (by omega) u5 (impl_lengths.M.pick (impl_lengths.M.ms l0) a1 j) n [.int .i64 n] (fun k => k ≠ w2.heap.size) (fun _ => False) rfl rfl ?aP (fun _ hk => hk.elim) ?aF ?aO ?aB ?aS ?aL ?_; (case aP => exact rfl); (case aB => exact (by repeat (first | (with_reducible first | exact HB.out | apply below_alloc | apply pw_below_drewN | apply below_drew1) | exact HB.out))); (case aF => exact (fun k hk => by have h1 := HSZ.out; have h2 : (wr.drewN nd).heap.size = wr.heap.size := (by simp); omega)); (case aO => exact (by (with_reducible repeat (first | apply Kd.R_alloc | apply Kd.R_drewN | apply Kd.R_drew)); exact HO.out)); (case aS => exact (below_size (by repeat (first | (with_reducible first | exact HB.out | apply below_alloc | apply pw_below_drewN | apply below_drew1) | exact HB.out)))); (case aL => have := HL.out; omega); intro v1 w1 ho hb hg hat; rw [← Hp.out] at ho; have n0_ := Aside0.mk (show w1.heap[w2.heap.size]? = some (.cells R 38 (0, 0)) from (hg.block w2.heap.size (by have h1 := HSZ.out; simpa using h1) (fun e => HO.out.1 _ e.symm rfl)).trans HG.out); have n1_ := Aside0.mk hb; have n2_ := Aside0.mk ho; have n3_ := Aside0.mk (show w2.heap.size < w1.heap.size from by have h1 := HSZ.out; have h2 := hg.size; simp at h2; omega); clear HG HB HO HSZ; have HG := n0_; have HB := n1_; have HO := n2_; have HSZ := n3_; clear n0_ n1_ n2_ n3_ ho hb hg hat))
        exact ⟨⟨j + 1, n + 1, rfl, ⟨by have := HN.out; omega⟩, ⟨by have := HN.out; omega⟩, HO, HG, HSZ, HB⟩, by simp only [intOf]; omega⟩
      · have hm0 : (decide (0 < x) == a1) = false := by simpa using hm
        have hm1 : decide (decide (0 < x) = a1) = false := by simpa using hm
        have hm2 : ¬ (decide (0 < x) = a1) := by simpa using hm
        have Hp : Aside0 (impl_lengths.M.pick (impl_lengths.M.ms l0) a1 (j + 1) = impl_lengths.M.pick (impl_lengths.M.ms l0) a1 j) := ⟨by
          rw [impl_lengths.M.pick_succ, ← HN.out, HX.out, if_neg hm, List.append_nil]⟩
        go_wp2_with (first | (go_at_call 54; refine (impl_length.calls _ c0 l0 top _ (Kd.C_below HR0.out HB.out) HC0.out HLN.out).mono ?_; rintro e w' ⟨rfl, ⟨nd, rfl⟩⟩))
        exact ⟨⟨j + 1, n + 1, rfl, ⟨by have := HN.out; omega⟩, ⟨by have := HN.out; omega⟩, ⟨by rw [Hp.out]; exact Kd.R_drewN HO.out _⟩, ⟨HG.out⟩, ⟨HSZ.out⟩, ⟨pw_below_drewN HB.out _⟩⟩, by simp only [intOf]; omega⟩
    · have hcb : decide (n ≤ top) = false := decide_eq_false hc
      have Hr : Aside0 (impl_lengths.M.pick (impl_lengths.M.ms l0) a1 j = r) := ⟨by
        have e : j = top.toNat := by have := HN.out; have := HJ.out; omega
        rw [HRR.out, HT.out, e]⟩
      go_wp2_with (first | (go_at_call 54; refine (impl_length.calls _ c0 l0 top _ (Kd.C_below HR0.out HB.out) HC0.out HLN.out).mono ?_; rintro e w' ⟨rfl, ⟨nd, rfl⟩⟩))
      go_ret
      exact ⟨_, rfl, by rw [← Hr.out]; exact Kd.R_mono (Kd.R_drewN HO.out _) (fun _ _ => trivial), pw_below_drewN HB.out _⟩

/-! ### impl_MissingLengths: function 32 -/
def impl_MissingLengths.f (k : Nat) (l0 : List Int) : Option (List Int × Bool) := (impl_IsRuler.f k l0).bind fun t200 => (if t200 = true then ((impl_lengths.f l0 false).bind fun t201 => (some (t201, true))) else (some (([] : List Int), false)))
theorem impl_MissingLengths.mono : ∀ a0 k, LeO (impl_MissingLengths.f k a0) (impl_MissingLengths.f (k + 1) a0) := by
  intro a0 k
  unfold impl_MissingLengths.f
  repeat' first
      | (with_reducible exact impl_IsRuler.mono _ _)
      | (with_reducible exact LeO.refl _)
      | (with_reducible exact LeO.none _)
      | (with_reducible refine LeO.ite ?_ ?_)
      | (with_reducible refine LeO.bind ?_ (fun _ => ?_))
      | exact impl_IsRuler.mono _ _
      | exact LeO.none _
      | refine LeO.ite ?_ ?_
      | refine LeO.bind ?_ (fun _ => ?_)
set_option maxHeartbeats 8000000 in
set_option maxRecDepth 100000 in
theorem impl_MissingLengths.calls (k : Nat) (A0 : Option Addr) (c0 : Nat) (l0 : List Int) (r1 : List Int) (r2 : Bool) (w : World) (hr0 : Kd.C (Kd.int .i64) w A0 l0.length l0) (hc0 : l0.length ≤ c0) (h : impl_MissingLengths.f k l0 = some (r1, r2)) :
    Calls Try.prog 32 #[.slice A0 l0.length c0] w fun e w' => ∃ v0_ : Value, e = .returned (.tuple #[v0_, .bool r2]) ∧ Kd.R (Kd.int .i64) 3 w' w.heap.size (fun _ => True) v0_ r1 ∧ Below w.heap.size w w' := by
  have HR0 := Aside0.mk hr0
  have HC0 := Aside0.mk hc0
  clear hr0 hc0
  have HB := Aside0.mk (Below.refl w.heap.size w)
  have H : ((impl_IsRuler.f k l0).bind fun t200 => (if t200 = true then ((impl_lengths.f l0 false).bind fun t201 => (some (t201, true))) else (some (([] : List Int), false)))) = some (r1, r2) := h
  clear h
  replace H := Option.bind_eq_some_iff.mp H
  obtain ⟨t200, A20, H⟩ := H
  replace H : (if t200 = true then ((impl_lengths.f l0 false).bind fun t201 => (some (t201, true))) else (some (([] : List Int), false))) = some (r1, r2) := H
  have A2 := Aside0.mk A20
  clear A20
  by_cases c3 : t200 = true
  · subst c3
    have H1 : ((impl_lengths.f l0 false).bind fun t201 => (some (t201, true))) = some (r1, r2) := by rw [if_pos rfl] at H; exact H
    clear H
    have H := H1
    clear H1
    replace H := Option.bind_eq_some_iff.mp H
    obtain ⟨t201, A40, H⟩ := H
    replace H : (some (t201, true)) = some (r1, r2) := H
    have A4 := Aside0.mk A40
    clear A40
    simp only [Option.some.injEq, Prod.mk.injEq] at H
    obtain ⟨rfl, rfl⟩ := H
    go_enter Try.func32, Try.ntmps32
    go_wp2_with (first | ((with_reducible refine gate_callee (f := 51) rfl ?_); refine goesL_ (some 5) rfl rfl Try.func51 (by kernel_rfl) rfl #[.slice A0 l0.length c0] rfl (by (try simp only [List.map_toArray, List.map_cons, List.map_nil]); first | done | rfl | (simp only [List.length_drop, List.length_take]; rfl)) ?_; (with_reducible refine (impl_IsRuler.calls k _ _ l0 true _ ?side1 ?side2 A2.out).mono ?_); (case side1 => repeat (first | exact HR0.out | (with_reducible refine Kd.C_alloc ?_ _) | (with_reducible refine Kd.C_drewN ?_ _) | (with_reducible refine Kd.C_drew ?_))); (case side2 => exact HC0.out); rintro e w' ⟨rfl, ⟨nd, rfl⟩⟩; refine ⟨_, rfl, ?_⟩) | ((with_reducible refine gate_callee (f := 58) rfl ?_); refine goesL_ (some 8) rfl rfl Try.func58 (by kernel_rfl) rfl #[.slice A0 l0.length c0, .bool false] rfl (by (try simp only [List.map_toArray, List.map_cons, List.map_nil]); first | done | rfl | (simp only [List.length_drop, List.length_take]; rfl)) ?_; (with_reducible refine (impl_lengths.calls _ _ l0 false t201 _ ?side1 ?side2 A4.out).mono ?_); (case side1 => repeat (first | exact HR0.out | (with_reducible refine Kd.C_alloc ?_ _) | (with_reducible refine Kd.C_drewN ?_ _) | (with_reducible refine Kd.C_drew ?_))); (case side2 => exact HC0.out); rintro e w5 ⟨v202, rfl, ho0, hb⟩; refine ⟨_, rfl, ?_⟩; have n0_ := Aside0.mk (Kd.R_lower ho0 (below_size (by repeat (first | (with_reducible first | exact HB.out | apply below_alloc | apply pw_below_drewN | apply below_drew1) | exact HB.out)))); have n1_ := Aside0.mk (below_step (by repeat (first | (with_reducible first | exact HB.out | apply below_alloc | apply pw_below_drewN | apply below_drew1) | exact HB.out)) hb); clear HB; have HO203 := n0_; have HB := n1_; clear n0_ n1_; (try clear hb); (try clear hb2); (try clear hk); (try clear hi); (try clear ho0)))
    go_ret2
    exact ⟨_, by first | rfl | (simp [errW_none, errW_some] <;> rfl) | (simp [*, errW_none, errW_some] <;> rfl), by (with_reducible repeat (first | apply Kd.R_alloc | apply Kd.R_drewN | apply Kd.R_drew)); exact HO203.out, by repeat (first | (with_reducible first | exact HB.out | apply below_alloc | apply pw_below_drewN | apply below_drew1) | exact HB.out)⟩
  · replace c3 := Bool.eq_false_iff.mpr c3
    subst c3
    have H1 : (some (([] : List Int), false)) = some (r1, r2) := by rw [if_neg (show ¬ (false = true) by decide)] at H; exact H
    clear H
    have H := H1
    clear H1
    simp only [Option.some.injEq, Prod.mk.injEq] at H
    obtain ⟨rfl, rfl⟩ := H
    go_enter Try.func32, Try.ntmps32
    go_wp2_with (first | ((with_reducible refine gate_callee (f := 51) rfl ?_); refine goesL_ (some 5) rfl rfl Try.func51 (by kernel_rfl) rfl #[.slice A0 l0.length c0] rfl (by (try simp only [List.map_toArray, List.map_cons, List.map_nil]); first | done | rfl | (simp only [List.length_drop, List.length_take]; rfl)) ?_; (with_reducible refine (impl_IsRuler.calls k _ _ l0 false _ ?side1 ?side2 A2.out).mono ?_); (case side1 => repeat (first | exact HR0.out | (with_reducible refine Kd.C_alloc ?_ _) | (with_reducible refine Kd.C_drewN ?_ _) | (with_reducible refine Kd.C_drew ?_))); (case side2 => exact HC0.out); rintro e w' ⟨rfl, ⟨nd, rfl⟩⟩; refine ⟨_, rfl, ?_⟩))
    go_ret2
    exact ⟨_, by first | rfl | (simp [errW_none, errW_some] <;> rfl) | (simp [*, errW_none, errW_some] <;> rfl), by first | exact Kd.R_nil _ _ _ _ _ | exact Kd.N_nil _ _ _ _ _ | exact Kd.V_nil _ _ _ _ _ | exact Kd.Q_nil _ _ _ _ _ | exact Kd.S_nil _ _ _ _ _, by repeat (first | (with_reducible first | exact HB.out | apply below_alloc | apply pw_below_drewN | apply below_drew1) | exact HB.out)⟩

/-! ### impl_IsComplete: function 28 -/
def impl_IsComplete.f (k : Nat) (l0 : List Int) : Option (Bool × Bool) := (impl_MissingLengths.f k l0).bind fun bt204 => (if bt204.2 = true then (some (((bt204.1.length : Int) == 0), bt204.2)) else (some (false, bt204.2)))
theorem impl_IsComplete.mono : ∀ a0 k, LeO (impl_IsComplete.f k a0) (impl_IsComplete.f (k + 1) a0) := by
  intro a0 k
  unfold impl_IsComplete.f
  repeat' first
      | (with_reducible exact impl_MissingLengths.mono _ _)
      | (with_reducible exact LeO.refl _)
      | (with_reducible exact LeO.none _)
      | (with_reducible refine LeO.ite ?_ ?_)
      | (with_reducible refine LeO.bind ?_ (fun _ => ?_))
      | exact impl_MissingLengths.mono _ _
      | exact LeO.none _
      | refine LeO.ite ?_ ?_
      | refine LeO.bind ?_ (fun _ => ?_)
set_option maxHeartbeats 8000000 in
set_option maxRecDepth 100000 in
theorem impl_IsComplete.calls (k : Nat) (A0 : Option Addr) (c0 : Nat) (l0 : List Int) (r1 : Bool) (r2 : Bool) (w : World) (hr0 : Kd.C (Kd.int .i64) w A0 l0.length l0) (hc0 : l0.length ≤ c0) (h : impl_IsComplete.f k l0 = some (r1, r2)) :
    Calls Try.prog 28 #[.slice A0 l0.length c0] w fun e w' => e = .returned (.tuple #[.bool r1, .bool r2]) ∧ Below w.heap.size w w' := by
  have HR0 := Aside0.mk hr0
  have HC0 := Aside0.mk hc0
  clear hr0 hc0
  have HB := Aside0.mk (Below.refl w.heap.size w)
  have H : ((impl_MissingLengths.f k l0).bind fun bt204 => (if bt204.2 = true then (some (((bt204.1.length : Int) == 0), bt204.2)) else (some (false, bt204.2)))) = some (r1, r2) := h
  clear h
  replace H := Option.bind_eq_some_iff.mp H
  obtain ⟨⟨t204, t205⟩, A20, H⟩ := H
  replace H : (if t205 = true then (some (((t204.length : Int) == 0), t205)) else (some (false, t205))) = some (r1, r2) := H
  have A2 := Aside0.mk A20
  clear A20
  by_cases c3 : t205 = true
  · subst c3
    have H1 : (some (((t204.length : Int) == 0), true)) = some (r1, r2) := by rw [if_pos rfl] at H; exact H
    clear H
    have H := H1
    clear H1
    simp only [Option.some.injEq, Prod.mk.injEq] at H
    obtain ⟨rfl, rfl⟩ := H
    go_enter Try.func28, Try.ntmps28
    go_wp2_with (first | ((with_reducible refine gate_callee (f := 32) rfl ?_); refine goesL_ (some 8) rfl rfl Try.func32 (by kernel_rfl) rfl #[.slice A0 l0.length c0] rfl (by (try simp only [List.map_toArray, List.map_cons, List.map_nil]); first | done | rfl | (simp only [List.length_drop, List.length_take]; rfl)) ?_; (with_reducible refine (impl_MissingLengths.calls k _ _ l0 t204 true _ ?side1 ?side2 A2.out).mono ?_); (case side1 => repeat (first | exact HR0.out | (with_reducible refine Kd.C_alloc ?_ _) | (with_reducible refine Kd.C_drewN ?_ _) | (with_reducible refine Kd.C_drew ?_))); (case side2 => exact HC0.out); rintro e w4 ⟨v206, rfl, ho0, hb⟩; refine ⟨_, rfl, ?_⟩; have n0_ := Aside0.mk (Kd.R_lower ho0 (below_size (by repeat (first | (with_reducible first | exact HB.out | apply below_alloc | apply pw_below_drewN | apply below_drew1) | exact HB.out)))); have n1_ := Aside0.mk (below_step (by repeat (first | (with_reducible first | exact HB.out | apply below_alloc | apply pw_below_drewN | apply below_drew1) | exact HB.out)) hb); clear HB; have HO207 := n0_; have HB := n1_; clear n0_ n1_; (try clear hb); (try clear hb2); (try clear hk); (try clear hi); (try clear ho0); obtain ⟨Ao5, co5, eo5⟩ := Kd.R_slice HO207.out; subst eo5))
    go_ret2
    exact ⟨by first | rfl | (simp [errW_none, errW_some] <;> rfl) | (simp [*, errW_none, errW_some] <;> rfl), by repeat (first | (with_reducible first | exact HB.out | apply below_alloc | apply pw_below_drewN | apply below_drew1) | exact HB.out)⟩
  · replace c3 := Bool.eq_false_iff.mpr c3
    subst c3
    have H1 : (some (false, false)) = some (r1, r2) := by rw [if_neg (show ¬ (false = true) by decide)] at H; exact H
    clear H
    have H := H1
    clear H1
    simp only [Option.some.injEq, Prod.mk.injEq] at H
    obtain ⟨rfl, rfl⟩ := H
    go_enter Try.func28, Try.ntmps28
    go_wp2_with (first | ((with_reducible refine gate_callee (f := 32) rfl ?_); refine goesL_ (some 8) rfl rfl Try.func32 (by kernel_rfl) rfl #[.slice A0 l0.length c0] rfl (by (try simp only [List.map_toArray, List.map_cons, List.map_nil]); first | done | rfl | (simp only [List.length_drop, List.length_take]; rfl)) ?_; (with_reducible refine (impl_MissingLengths.calls k _ _ l0 t204 false _ ?side1 ?side2 A2.out).mono ?_); (case side1 => repeat (first | exact HR0.out | (with_reducible refine Kd.C_alloc ?_ _) | (with_reducible refine Kd.C_drewN ?_ _) | (with_reducible refine Kd.C_drew ?_))); (case side2 => exact HC0.out); rintro e w6 ⟨v206, rfl, ho0, hb⟩; refine ⟨_, rfl, ?_⟩; have n0_ := Aside0.mk (Kd.R_lower ho0 (below_size (by repeat (first | (with_reducible first | exact HB.out | apply below_alloc | apply pw_below_drewN | apply below_drew1) | exact HB.out)))); have n1_ := Aside0.mk (below_step (by repeat (first | (with_reducible first | exact HB.out | apply below_alloc | apply pw_below_drewN | apply below_drew1) | exact HB.out)) hb); clear HB; have HO207 := n0_; have HB := n1_; clear n0_ n1_; (try clear hb); (try clear hb2); (try clear hk); (try clear hi); (try clear ho0)))
    go_ret2
    exact ⟨by first | rfl | (simp [errW_none, errW_some] <;> rfl) | (simp [*, errW_none, errW_some] <;> rfl), by repeat (first | (with_reducible first | exact HB.out | apply below_alloc | apply pw_below_drewN | apply below_drew1) | exact HB.out)⟩

end Go.Proofs.Ytlkgojgmgdeieaa.G
