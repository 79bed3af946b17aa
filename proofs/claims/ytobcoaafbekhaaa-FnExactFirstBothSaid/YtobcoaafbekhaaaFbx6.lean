/- Functions of the program and of the reference as Lean functions, and the contracts of their calls: laid by a program of this repo (wip/gen.py), in part by hand. -/
import Derived.Test.YtobcoaafbekhaaaFbx0
namespace Go.Proofs.Ytobcoaafbekhaaa.Fb
open Go.RowKit Go.Proofs.YtobcoaafbekhaaaW.PrintWords Go.Proofs.YtobcoaafbekhaaaW.PrintLast Go.Proofs.YtobcoaafbekhaaaW.PrintMore
attribute [local go_sem] max2_int min2_int max_two min_two max_three min_three max_four min_four   -- for this text's walks alone
set_option linter.unusedVariables false
set_option linter.unusedSimpArgs false

/-! ### impl_sidesOf: function 47 -/
/-- What the pieces from each one on are told by: one sign of a piece more. -/
def impl_sidesOf.one (p k w f : Int) (TF : List Int × List Int) (s : Nat) : List Int × List Int :=
  (TF.1.set (k + (s : Int) * p).toNat (wrap64 (rd TF.1 (k + (s : Int) * p) + w)), if 0 < w then TF.2.set (k + (s : Int) * p).toNat (mn (rd TF.2 (k + (s : Int) * p)) (wrap64 (f + if s = 1 then 0 else 1))) else TF.2)
def impl_sidesOf.steps (p k w f : Int) (TF : List Int × List Int) : Nat → List Int × List Int
  | 0 => TF
  | s + 1 => impl_sidesOf.one p k w f (impl_sidesOf.steps p k w f TF s) s
def impl_sidesOf.rows (p : Int) (W F : List Int) (size : Nat) : Nat → List Int × List Int
  | 0 => (List.replicate size 0, List.replicate size 21)
  | k + 1 => impl_sidesOf.steps p (k : Int) (rd W (k : Int)) (rd F (k : Int)) (impl_sidesOf.rows p W F size k) 3
def impl_sidesOf.tabs : List Int → List Int × List Int
  | [] => ([1], [0])
  | p :: t => impl_sidesOf.rows p (impl_sidesOf.tabs t).1 (impl_sidesOf.tabs t).2 (2 * (p + t.sum) + 1).toNat (impl_sidesOf.tabs t).1.length
theorem impl_sidesOf.one_len (p k w f : Int) (TF : List Int × List Int) (s : Nat) : (impl_sidesOf.one p k w f TF s).1.length = TF.1.length ∧ (impl_sidesOf.one p k w f TF s).2.length = TF.2.length := by
  unfold impl_sidesOf.one
  by_cases h : 0 < w <;> simp [h]
theorem impl_sidesOf.steps_len (p k w f : Int) (TF : List Int × List Int) : ∀ s, (impl_sidesOf.steps p k w f TF s).1.length = TF.1.length ∧ (impl_sidesOf.steps p k w f TF s).2.length = TF.2.length
  | 0 => ⟨rfl, rfl⟩
  | s + 1 => by
    have h1 := impl_sidesOf.steps_len p k w f TF s
    have h2 := impl_sidesOf.one_len p k w f (impl_sidesOf.steps p k w f TF s) s
    exact ⟨h2.1.trans h1.1, h2.2.trans h1.2⟩
theorem impl_sidesOf.rows_len (p : Int) (W F : List Int) (size : Nat) : ∀ k, (impl_sidesOf.rows p W F size k).1.length = size ∧ (impl_sidesOf.rows p W F size k).2.length = size
  | 0 => by simp [impl_sidesOf.rows]
  | k + 1 => by
    have h1 := impl_sidesOf.rows_len p W F size k
    have h2 := impl_sidesOf.steps_len p (k : Int) (rd W (k : Int)) (rd F (k : Int)) (impl_sidesOf.rows p W F size k) 3
    exact ⟨h2.1.trans h1.1, h2.2.trans h1.2⟩
theorem impl_sidesOf.steps_pos (p k w f : Int) (TF : List Int × List Int) (s : Nat) (hw : 0 < w) (E : Int) (hE : E = k + (s : Int) * p) {x y : Int} (hx : rd (impl_sidesOf.steps p k w f TF s).1 E = x) (hy : rd (impl_sidesOf.steps p k w f TF s).2 E = y) (c : Int) (hc : (if s = 1 then (0 : Int) else 1) = c) :
    impl_sidesOf.steps p k w f TF (s + 1) = ((impl_sidesOf.steps p k w f TF s).1.set E.toNat (wrap64 (x + w)), (impl_sidesOf.steps p k w f TF s).2.set E.toNat (mn y (wrap64 (f + c)))) := by
  rw [impl_sidesOf.steps, impl_sidesOf.one, ← hE, hx, hy, if_pos hw, hc]
theorem impl_sidesOf.steps_neg (p k w f : Int) (TF : List Int × List Int) (s : Nat) (hw : ¬ 0 < w) (E : Int) (hE : E = k + (s : Int) * p) {x : Int} (hx : rd (impl_sidesOf.steps p k w f TF s).1 E = x) :
    impl_sidesOf.steps p k w f TF (s + 1) = ((impl_sidesOf.steps p k w f TF s).1.set E.toNat (wrap64 (x + w)), (impl_sidesOf.steps p k w f TF s).2) := by
  rw [impl_sidesOf.steps, impl_sidesOf.one, ← hE, hx, if_neg hw]
theorem impl_sidesOf.mn_ex1 (y f : Int) : ∃ z, (if wrap64 (f + 1) < y then wrap64 (f + 1) else y) = z ∧ mn y (wrap64 (f + 1)) = z := ⟨_, rfl, rfl⟩
theorem impl_sidesOf.mn_ex0 (y f : Int) : ∃ z, (if wrap64 f < y then wrap64 f else y) = z ∧ mn y (wrap64 (f + 0)) = z := ⟨_, rfl, by rw [Int.add_zero]; rfl⟩
/-- Pieces that the tables are made of. -/
def impl_sidesOf.good (l : List Int) : Bool := decide (l.length ≤ 12) && l.all fun x => decide (1 ≤ x ∧ x ≤ 10000)
theorem impl_sidesOf.sum_le : ∀ (l : List Int), (∀ x ∈ l, 1 ≤ x ∧ x ≤ 10000) → 0 ≤ l.sum ∧ l.sum ≤ 10000 * l.length
  | [], _ => by simp
  | p :: t, h => by
    have h1 := impl_sidesOf.sum_le t (fun x hx => h x (List.mem_cons_of_mem _ hx))
    have h2 := h p List.mem_cons_self
    rw [List.sum_cons, List.length_cons]
    omega
theorem impl_sidesOf.tabs_len : ∀ (l : List Int), (∀ x ∈ l, 1 ≤ x ∧ x ≤ 10000) → (impl_sidesOf.tabs l).1.length = (2 * l.sum + 1).toNat ∧ (impl_sidesOf.tabs l).2.length = (2 * l.sum + 1).toNat
  | [], _ => ⟨rfl, rfl⟩
  | p :: t, h => by
    have := impl_sidesOf.rows_len p (impl_sidesOf.tabs t).1 (impl_sidesOf.tabs t).2 (2 * (p + t.sum) + 1).toNat (impl_sidesOf.tabs t).1.length
    rw [List.sum_cons]
    exact this
/-- A row of numbers alone in a block, from block M on and below N. -/
def impl_sidesOf.RowAt (W : World) (M N : Nat) (v : Value) (xs : List Int) : Prop := ∃ g, (M ≤ g ∧ g < N) ∧ v = .slice (some ⟨g, 0, none⟩) xs.length xs.length ∧ W.heap[g]? = some (.cells (nums .i64 xs).toArray 3 (0, 0))
/-- The struct's variable (block B), its tables (Bw, Bf, Bt) and the result's variable; the rows lie from block M on. -/
structure impl_sidesOf.St (w W : World) (A0 : Option Addr) (n c0 B Bw Bf Bt M : Nat) (cw cf : List Value) (ts : List Int) : Prop where
  hB : W.heap[B]? = some (.cells #[.slice A0 n c0, .slice (some ⟨Bw, 0, none⟩) (n + 1) (n + 1), .slice (some ⟨Bf, 0, none⟩) (n + 1) (n + 1), .slice (some ⟨Bt, 0, none⟩) (n + 1) (n + 1)] 47 (0, 0))
  hw : W.heap[Bw]? = some (.cells cw.toArray 22 (0, 0))
  hf : W.heap[Bf]? = some (.cells cf.toArray 22 (0, 0))
  ht : W.heap[Bt]? = some (.cells (nums .i64 ts).toArray 3 (0, 0))
  hr : W.heap[w.heap.size]? = some (.cells #[.slice none 0 0, .slice none 0 0, .slice none 0 0, .slice none 0 0] 47 (0, 0))
  len : cw.length = n + 1 ∧ cf.length = n + 1 ∧ ts.length = n + 1
  ne : (B ≠ Bw ∧ B ≠ Bf ∧ B ≠ Bt) ∧ Bw ≠ Bf ∧ Bw ≠ Bt ∧ Bf ≠ Bt
  lo : w.heap.size < B ∧ w.heap.size < Bw ∧ w.heap.size < Bf ∧ w.heap.size < Bt
  hi : B < M ∧ Bw < M ∧ Bf < M ∧ Bt < M
  below : Below w.heap.size w W
section
variable {w W : World} {A0 : Option Addr} {n c0 B Bw Bf Bt M : Nat} {cw cf : List Value} {ts : List Int}
/-- Whatever leaves what is below M alone. -/
theorem impl_sidesOf.St.move (h : impl_sidesOf.St w W A0 n c0 B Bw Bf Bt M cw cf ts) {W1 : World} (hb : Below w.heap.size w W1) (hk : ∀ k, k < M → W1.heap[k]? = W.heap[k]?) : impl_sidesOf.St w W1 A0 n c0 B Bw Bf Bt M cw cf ts := by
  have := h.lo; have := h.hi
  exact ⟨(hk _ (by omega)).trans h.hB, (hk _ (by omega)).trans h.hw, (hk _ (by omega)).trans h.hf, (hk _ (by omega)).trans h.ht, (hk _ (by omega)).trans h.hr, h.len, h.ne, h.lo, h.hi, hb⟩
theorem impl_sidesOf.St.size (h : impl_sidesOf.St w W A0 n c0 B Bw Bf Bt M cw cf ts) : B < W.heap.size ∧ Bw < W.heap.size ∧ Bf < W.heap.size ∧ Bt < W.heap.size :=
  ⟨(Array.getElem?_eq_some_iff.1 h.hB).1, (Array.getElem?_eq_some_iff.1 h.hw).1, (Array.getElem?_eq_some_iff.1 h.hf).1, (Array.getElem?_eq_some_iff.1 h.ht).1⟩
theorem impl_sidesOf.St.drew (h : impl_sidesOf.St w W A0 n c0 B Bw Bf Bt M cw cf ts) : impl_sidesOf.St w W.drew A0 n c0 B Bw Bf Bt M cw cf ts := h.move (below_drew h.below) (fun _ _ => rfl)
theorem impl_sidesOf.St.drewN (h : impl_sidesOf.St w W A0 n c0 B Bw Bf Bt M cw cf ts) (q : Nat) : impl_sidesOf.St w (W.drewN q) A0 n c0 B Bw Bf Bt M cw cf ts := h.move (pw_below_drewN h.below q) (fun _ _ => rfl)
theorem impl_sidesOf.St.alloc (h : impl_sidesOf.St w W A0 n c0 B Bw Bf Bt M cw cf ts) (hM : M ≤ W.heap.size) (o : Obj) : impl_sidesOf.St w (W.alloc o) A0 n c0 B Bw Bf Bt M cw cf ts := h.move (below_alloc h.below o) (fun k hk => heap_alloc_old W o (by omega))
theorem impl_sidesOf.St.far (h : impl_sidesOf.St w W A0 n c0 B Bw Bf Bt M cw cf ts) {g : Nat} (hg : M ≤ g) (j : Nat) (v : Value) : impl_sidesOf.St w (W.setCell ⟨g, j, none⟩ v) A0 n c0 B Bw Bf Bt M cw cf ts :=
  h.move (h.below.setCell (by have := h.lo; have := h.hi; show w.heap.size ≤ g; omega) _) (fun k hk => heap_setCell_other _ _ _ _ (by show k ≠ g; omega))
theorem impl_sidesOf.St.setW (h : impl_sidesOf.St w W A0 n c0 B Bw Bf Bt M cw cf ts) (i : Nat) (v : Value) : impl_sidesOf.St w (W.setCell ⟨Bw, i, none⟩ v) A0 n c0 B Bw Bf Bt M (cw.set i v) cf ts := by
  have h1 := h.lo; have h2 := h.ne; have h3 := h.len
  have ho : ∀ k, k ≠ Bw → (W.setCell ⟨Bw, i, none⟩ v).heap[k]? = W.heap[k]? := fun k hk => heap_setCell_other _ _ _ _ hk
  refine ⟨(ho _ (by omega)).trans h.hB, ?_, (ho _ (by omega)).trans h.hf, (ho _ (by omega)).trans h.ht, (ho _ (by omega)).trans h.hr, by rw [List.length_set]; exact h3, h2, h1, h.hi, h.below.setCell (by show w.heap.size ≤ Bw; omega) _⟩
  rw [heap_setCell_same _ _ _ _ _ _ h.hw]; simp
theorem impl_sidesOf.St.setF (h : impl_sidesOf.St w W A0 n c0 B Bw Bf Bt M cw cf ts) (i : Nat) (v : Value) : impl_sidesOf.St w (W.setCell ⟨Bf, i, none⟩ v) A0 n c0 B Bw Bf Bt M cw (cf.set i v) ts := by
  have h1 := h.lo; have h2 := h.ne; have h3 := h.len
  have ho : ∀ k, k ≠ Bf → (W.setCell ⟨Bf, i, none⟩ v).heap[k]? = W.heap[k]? := fun k hk => heap_setCell_other _ _ _ _ hk
  refine ⟨(ho _ (by omega)).trans h.hB, (ho _ (by omega)).trans h.hw, ?_, (ho _ (by omega)).trans h.ht, (ho _ (by omega)).trans h.hr, by rw [List.length_set]; exact h3, h2, h1, h.hi, h.below.setCell (by show w.heap.size ≤ Bf; omega) _⟩
  rw [heap_setCell_same _ _ _ _ _ _ h.hf]; simp
theorem impl_sidesOf.St.setT (h : impl_sidesOf.St w W A0 n c0 B Bw Bf Bt M cw cf ts) (i : Nat) (x : Int) : impl_sidesOf.St w (W.setCell ⟨Bt, i, none⟩ (.int .i64 x)) A0 n c0 B Bw Bf Bt M cw cf (ts.set i x) := by
  have h1 := h.lo; have h2 := h.ne; have h3 := h.len
  have ho : ∀ k, k ≠ Bt → (W.setCell ⟨Bt, i, none⟩ (.int .i64 x)).heap[k]? = W.heap[k]? := fun k hk => heap_setCell_other _ _ _ _ hk
  refine ⟨(ho _ (by omega)).trans h.hB, (ho _ (by omega)).trans h.hw, (ho _ (by omega)).trans h.hf, ?_, (ho _ (by omega)).trans h.hr, by rw [List.length_set]; exact h3, h2, h1, h.hi, h.below.setCell (by show w.heap.size ≤ Bt; omega) _⟩
  rw [heap_setCell_same _ _ _ _ _ _ h.ht]; simp [nums, List.map_set]
theorem impl_sidesOf.St.cellB (h : impl_sidesOf.St w W A0 n c0 B Bw Bf Bt M cw cf ts) : W.cell? ⟨B, 1, none⟩ = some (.slice (some ⟨Bw, 0, none⟩) (n + 1) (n + 1)) ∧ W.cell? ⟨B, 2, none⟩ = some (.slice (some ⟨Bf, 0, none⟩) (n + 1) (n + 1)) ∧ W.cell? ⟨B, 3, none⟩ = some (.slice (some ⟨Bt, 0, none⟩) (n + 1) (n + 1)) := by
  refine ⟨?_, ?_, ?_⟩ <;> · rw [cell_of_row W _ _ _ _ _ h.hB]; rfl
theorem impl_sidesOf.St.cellW (h : impl_sidesOf.St w W A0 n c0 B Bw Bf Bt M cw cf ts) (i : Nat) (v : Value) (hv : cw[i]? = some v) : W.cell? ⟨Bw, i, none⟩ = some v ∧ W.frozen? ⟨Bw, i, none⟩ = false := by
  refine ⟨?_, frozen_of_row W _ _ _ _ h.hw⟩
  rw [cell_of_row W _ _ _ _ _ h.hw]; simpa using hv
theorem impl_sidesOf.St.cellF (h : impl_sidesOf.St w W A0 n c0 B Bw Bf Bt M cw cf ts) (i : Nat) (v : Value) (hv : cf[i]? = some v) : W.cell? ⟨Bf, i, none⟩ = some v ∧ W.frozen? ⟨Bf, i, none⟩ = false := by
  refine ⟨?_, frozen_of_row W _ _ _ _ h.hf⟩
  rw [cell_of_row W _ _ _ _ _ h.hf]; simpa using hv
theorem impl_sidesOf.St.cellT (h : impl_sidesOf.St w W A0 n c0 B Bw Bf Bt M cw cf ts) (i : Nat) (hi : i ≤ n) : W.cell? ⟨Bt, i, none⟩ = some (.int .i64 (ts.getD i 0)) ∧ W.frozen? ⟨Bt, i, none⟩ = false := by
  refine ⟨?_, frozen_of_row W _ _ _ _ h.ht⟩
  rw [cell_of_row W _ _ _ _ _ h.ht]
  have : i < ts.length := by have := h.len; omega
  simp [nums, this]
end
section
variable {W W1 : World} {M g : Nat} {v : Value} {xs : List Int}
theorem impl_sidesOf.row_cell (h : W.heap[g]? = some (.cells (nums .i64 xs).toArray 3 (0, 0))) (i : Nat) (hi : i < xs.length) : W.cell? ⟨g, i, none⟩ = some (.int .i64 (rd xs (i : Int))) ∧ W.frozen? ⟨g, i, none⟩ = false := by
  refine ⟨?_, frozen_of_row W _ _ _ _ h⟩
  rw [cell_of_row W _ _ _ _ _ h]
  simp [nums, rd, hi]
theorem impl_sidesOf.row_set (h : W.heap[g]? = some (.cells (nums .i64 xs).toArray 3 (0, 0))) (i : Nat) (x : Int) : (W.setCell ⟨g, i, none⟩ (.int .i64 x)).heap[g]? = some (.cells (nums .i64 (xs.set i x)).toArray 3 (0, 0)) := by
  rw [heap_setCell_same _ _ _ _ _ _ h]; simp [nums, List.map_set]
theorem impl_sidesOf.RowAt.move {N : Nat} (h : impl_sidesOf.RowAt W M N v xs) (hk : ∀ k, M ≤ k → k < N → W1.heap[k]? = W.heap[k]?) : impl_sidesOf.RowAt W1 M N v xs := by
  obtain ⟨g, h1, h2, h3⟩ := h
  exact ⟨g, h1, h2, (hk g h1.1 h1.2).trans h3⟩
theorem impl_sidesOf.RowAt.more {N N' : Nat} (h : impl_sidesOf.RowAt W M N v xs) (hN : N ≤ N') : impl_sidesOf.RowAt W M N' v xs := by
  obtain ⟨g, h1, h2, h3⟩ := h
  exact ⟨g, ⟨h1.1, by omega⟩, h2, h3⟩
end
theorem impl_sidesOf.info22 : (Try.prog.info? 22).map (fun i => (i.zero, i.size, i.bytes)) = some (some (.slice none 0 0), 1, 24) := by kernel_rfl
theorem impl_sidesOf.info3 : (Try.prog.info? 3).map (fun i => (i.zero, i.size, i.bytes)) = some (some (.int .i64 0), 1, 8) := by kernel_rfl
theorem impl_sidesOf.make45 (m : Nat) (hm : m ≤ 1000000) (W : World) : (Instr.makeSlice 45 (.int .i64 (m : Int)) (.int .i64 (m : Int))).run Try.prog W = .ok (.slice (some ⟨W.heap.size, 0, none⟩) m m) (W.alloc (.cells (List.replicate m (Value.slice none 0 0)).toArray 22)) := by
  have := run_make_row' 45 22 (.slice none 0 0) 24 Try.underlying45 impl_sidesOf.info22 rfl .i64 .i64 m (by omega) (by omega) W
  rw [this]
  congr 3
  apply Array.ext
  · simp [madeCells]
  · intro i h1 h2
    simp [madeCells, Nat.mod_one]
theorem impl_sidesOf.make22 (m : Nat) (hm : m ≤ 1000000) (W : World) : (Instr.makeSlice 22 (.int .i64 (m : Int)) (.int .i64 (m : Int))).run Try.prog W = .ok (.slice (some ⟨W.heap.size, 0, none⟩) m m) (W.alloc (.cells (nums .i64 (List.replicate m 0)).toArray 3)) := by
  have := run_make_row' 22 3 (.int .i64 0) 8 Try.underlying22 impl_sidesOf.info3 rfl .i64 .i64 m (by omega) (by omega) W
  rw [this]
  congr 3
  apply Array.ext
  · simp [madeCells, nums]
  · intro i h1 h2
    simp [madeCells, nums, Nat.mod_one]
theorem impl_sidesOf.heap_push (W : World) (o : Obj) (k : Nat) : (W.alloc o).heap[k]? = if k = W.heap.size then some o else W.heap[k]? := by
  by_cases h : k = W.heap.size
  · subst h; rw [if_pos rfl]; exact heap_alloc_new _ _
  · rw [if_neg h]
    by_cases h2 : k < W.heap.size
    · exact heap_alloc_old W o h2
    · rw [Array.getElem?_eq_none (by rw [World.size_alloc]; omega), Array.getElem?_eq_none (by omega)]
theorem impl_sidesOf.heap_drew (W : World) (k : Nat) : W.drew.heap[k]? = W.heap[k]? := rfl
/-- Behind the prologue: the tables are made. -/
def impl_sidesOf.Pro (w W : World) (A0 : Option Addr) (n c0 : Nat) (v4 v19 v22 v25 : Value) : Prop :=
  ∃ B Bw Bf Bt M, v4 = .pointer (some ⟨B, 0, none⟩) ∧ v19 = .slice (some ⟨Bw, 0, none⟩) (n + 1) (n + 1) ∧ v22 = .slice (some ⟨Bf, 0, none⟩) (n + 1) (n + 1) ∧ v25 = .slice (some ⟨Bt, 0, none⟩) (n + 1) (n + 1) ∧ M ≤ W.heap.size ∧ impl_sidesOf.St w W A0 n c0 B Bw Bf Bt M (List.replicate (n + 1) (.slice none 0 0)) (List.replicate (n + 1) (.slice none 0 0)) (List.replicate (n + 1) 0)
theorem impl_sidesOf.Pro.mk' {w W : World} {A0 : Option Addr} {n c0 B Bw Bf Bt : Nat} {v4 v19 v22 v25 : Value} (e4 : v4 = .pointer (some ⟨B, 0, none⟩)) (e19 : v19 = .slice (some ⟨Bw, 0, none⟩) (n + 1) (n + 1)) (e22 : v22 = .slice (some ⟨Bf, 0, none⟩) (n + 1) (n + 1)) (e25 : v25 = .slice (some ⟨Bt, 0, none⟩) (n + 1) (n + 1)) (Cw Cf Ct : Array Value)
  (ew : Cw = (List.replicate (n + 1) (Value.slice none 0 0)).toArray) (ef : Cf = (List.replicate (n + 1) (Value.slice none 0 0)).toArray) (et : Ct = (nums .i64 (List.replicate (n + 1) 0)).toArray)
  (hB : W.heap[B]? = some (.cells #[.slice A0 n c0, .slice (some ⟨Bw, 0, none⟩) (n + 1) (n + 1), .slice (some ⟨Bf, 0, none⟩) (n + 1) (n + 1), .slice (some ⟨Bt, 0, none⟩) (n + 1) (n + 1)] 47 (0, 0)))
  (hw : W.heap[Bw]? = some (.cells Cw 22 (0, 0))) (hf : W.heap[Bf]? = some (.cells Cf 22 (0, 0))) (ht : W.heap[Bt]? = some (.cells Ct 3 (0, 0)))
  (hr : W.heap[w.heap.size]? = some (.cells #[.slice none 0 0, .slice none 0 0, .slice none 0 0, .slice none 0 0] 47 (0, 0)))
  (ne : (B ≠ Bw ∧ B ≠ Bf ∧ B ≠ Bt) ∧ Bw ≠ Bf ∧ Bw ≠ Bt ∧ Bf ≠ Bt) (lo : w.heap.size < B ∧ w.heap.size < Bw ∧ w.heap.size < Bf ∧ w.heap.size < Bt) (below : Below w.heap.size w W) : impl_sidesOf.Pro w W A0 n c0 v4 v19 v22 v25 := by
  subst ew; subst ef; subst et
  exact ⟨B, Bw, Bf, Bt, W.heap.size, e4, e19, e22, e25, Nat.le_refl _, hB, hw, hf, ht, hr, by simp, ne, lo, ⟨(Array.getElem?_eq_some_iff.1 hB).1, (Array.getElem?_eq_some_iff.1 hw).1, (Array.getElem?_eq_some_iff.1 hf).1, (Array.getElem?_eq_some_iff.1 ht).1⟩, below⟩
/-- The rows from piece m on are done. -/
def impl_sidesOf.Done (W : World) (M N : Nat) (cw cf : List Value) (ts l0 : List Int) (m : Nat) : Prop :=
  ∀ j, m ≤ j → j ≤ l0.length → impl_sidesOf.RowAt W M N (cw.getD j (.slice none 0 0)) (impl_sidesOf.tabs (l0.drop j)).1 ∧ impl_sidesOf.RowAt W M N (cf.getD j (.slice none 0 0)) (impl_sidesOf.tabs (l0.drop j)).2 ∧ ts.getD j 0 = (l0.drop j).sum
def impl_sidesOf.Head (w W : World) (A0 : Option Addr) (c0 : Nat) (l0 : List Int) (B Bw Bf Bt M m : Nat) : Prop :=
  ∃ cw cf ts, M ≤ W.heap.size ∧ impl_sidesOf.St w W A0 l0.length c0 B Bw Bf Bt M cw cf ts ∧ impl_sidesOf.Done W M W.heap.size cw cf ts l0 m
theorem impl_sidesOf.first_rows {w W : World} {A0 : Option Addr} {c0 : Nat} {l0 : List Int} {B Bw Bf Bt M g1 g2 : Nat} (h : impl_sidesOf.St w W A0 l0.length c0 B Bw Bf Bt M ((List.replicate (l0.length + 1) (.slice none 0 0)).set l0.length (.slice (some ⟨g1, 0, none⟩) 1 1)) ((List.replicate (l0.length + 1) (.slice none 0 0)).set l0.length (.slice (some ⟨g2, 0, none⟩) 1 1)) (List.replicate (l0.length + 1) 0)) (hM : M ≤ W.heap.size)
    (h1 : M ≤ g1) (h2 : M ≤ g2) (e1 : W.heap[g1]? = some (.cells #[.int .i64 1] 3 (0, 0))) (e2 : W.heap[g2]? = some (.cells #[.int .i64 0] 3 (0, 0))) : impl_sidesOf.Head w W A0 c0 l0 B Bw Bf Bt M l0.length := by
  refine ⟨_, _, _, hM, h, fun j hj1 hj2 => ?_⟩
  obtain rfl : j = l0.length := by omega
  refine ⟨⟨g1, ⟨h1, (Array.getElem?_eq_some_iff.1 e1).1⟩, ?_, ?_⟩, ⟨g2, ⟨h2, (Array.getElem?_eq_some_iff.1 e2).1⟩, ?_, ?_⟩, ?_⟩
  · simp [impl_sidesOf.tabs]
  · rw [e1]; simp [impl_sidesOf.tabs, nums]
  · simp [impl_sidesOf.tabs]
  · rw [e2]; simp [impl_sidesOf.tabs, nums]
  · simp
theorem impl_sidesOf.Done.move {W W1 : World} {M N : Nat} {cw cf : List Value} {ts l0 : List Int} {m : Nat} (h : impl_sidesOf.Done W M N cw cf ts l0 m) (hk : ∀ k, M ≤ k → k < N → W1.heap[k]? = W.heap[k]?) : impl_sidesOf.Done W1 M N cw cf ts l0 m :=
  fun j h1 h2 => ⟨(h j h1 h2).1.move hk, (h j h1 h2).2.1.move hk, (h j h1 h2).2.2⟩
theorem impl_sidesOf.Done.set {W : World} {M N : Nat} {cw cf : List Value} {ts l0 : List Int} {i : Nat} (h : impl_sidesOf.Done W M N cw cf ts l0 (i + 1)) (u v : Value) (x : Int) : impl_sidesOf.Done W M N (cw.set i u) (cf.set i v) (ts.set i x) l0 (i + 1) := fun j h1 h2 => by
  have e1 : (cw.set i u).getD j (.slice none 0 0) = cw.getD j (.slice none 0 0) := by simp [List.getD, List.getElem?_set_ne (show i ≠ j by omega)]
  have e2 : (cf.set i v).getD j (.slice none 0 0) = cf.getD j (.slice none 0 0) := by simp [List.getD, List.getElem?_set_ne (show i ≠ j by omega)]
  have e3 : (ts.set i x).getD j 0 = ts.getD j 0 := by simp [List.getD, List.getElem?_set_ne (show i ≠ j by omega)]
  rw [e1, e2, e3]
  exact h j h1 h2
/-- In the round of piece i: its two rows lie in gw and gf. -/
structure impl_sidesOf.Bd (w W : World) (A0 : Option Addr) (c0 : Nat) (l0 : List Int) (B Bw Bf Bt M N i gw gf : Nat) (cw cf : List Value) (ts T F : List Int) : Prop where
  st : impl_sidesOf.St w W A0 l0.length c0 B Bw Bf Bt M cw cf ts
  done : impl_sidesOf.Done W M N cw cf ts l0 (i + 1)
  hT : W.heap[gw]? = some (.cells (nums .i64 T).toArray 3 (0, 0))
  hF : W.heap[gf]? = some (.cells (nums .i64 F).toArray 3 (0, 0))
  no : M ≤ N ∧ N ≤ gw ∧ N ≤ gf ∧ gw ≠ gf
  aw : cw[i]? = some (.slice (some ⟨gw, 0, none⟩) T.length T.length)
  af : cf[i]? = some (.slice (some ⟨gf, 0, none⟩) F.length F.length)
section
variable {w W : World} {A0 : Option Addr} {c0 : Nat} {l0 : List Int} {B Bw Bf Bt M N i gw gf : Nat} {cw cf : List Value} {ts T F : List Int}
theorem impl_sidesOf.Bd.drew (h : impl_sidesOf.Bd w W A0 c0 l0 B Bw Bf Bt M N i gw gf cw cf ts T F) : impl_sidesOf.Bd w W.drew A0 c0 l0 B Bw Bf Bt M N i gw gf cw cf ts T F :=
  ⟨h.st.drew, h.done.move (fun _ _ _ => rfl), h.hT, h.hF, h.no, h.aw, h.af⟩
theorem impl_sidesOf.Bd.setT (h : impl_sidesOf.Bd w W A0 c0 l0 B Bw Bf Bt M N i gw gf cw cf ts T F) (j : Nat) (x : Int) : impl_sidesOf.Bd w (W.setCell ⟨gw, j, none⟩ (.int .i64 x)) A0 c0 l0 B Bw Bf Bt M N i gw gf cw cf ts (T.set j x) F := by
  have hn := h.no
  refine ⟨h.st.far (by omega) _ _, h.done.move (fun k _ hk => heap_setCell_other _ _ _ _ (by show k ≠ gw; omega)), impl_sidesOf.row_set h.hT j x, ?_, hn, by rw [List.length_set]; exact h.aw, h.af⟩
  rw [heap_setCell_other _ _ _ _ (show gf ≠ gw by omega)]; exact h.hF
theorem impl_sidesOf.Bd.setF (h : impl_sidesOf.Bd w W A0 c0 l0 B Bw Bf Bt M N i gw gf cw cf ts T F) (j : Nat) (x : Int) : impl_sidesOf.Bd w (W.setCell ⟨gf, j, none⟩ (.int .i64 x)) A0 c0 l0 B Bw Bf Bt M N i gw gf cw cf ts T (F.set j x) := by
  have hn := h.no
  refine ⟨h.st.far (by omega) _ _, h.done.move (fun k _ hk => heap_setCell_other _ _ _ _ (by show k ≠ gf; omega)), ?_, impl_sidesOf.row_set h.hF j x, hn, h.aw, by rw [List.length_set]; exact h.af⟩
  rw [heap_setCell_other _ _ _ _ (show gw ≠ gf by omega)]; exact h.hT
/-- The round's start: the piece's sum is laid, and two rows are made. -/
theorem impl_sidesOf.Bd.mk' {W2 : World} (h : impl_sidesOf.St w W A0 l0.length c0 B Bw Bf Bt M cw cf ts) (hd : impl_sidesOf.Done W M N cw cf ts l0 (i + 1)) (hN : N = W.heap.size) (hM : M ≤ N) (hi : i < l0.length) {z : Int}
    (h2 : impl_sidesOf.St w W2 A0 l0.length c0 B Bw Bf Bt M (cw.set i (.slice (some ⟨gw, 0, none⟩) T.length T.length)) (cf.set i (.slice (some ⟨gf, 0, none⟩) F.length F.length)) (ts.set i z)) (hk : ∀ k, M ≤ k → k < N → W2.heap[k]? = W.heap[k]?)
    (hg : N ≤ gw ∧ N ≤ gf ∧ gw ≠ gf) (eT : W2.heap[gw]? = some (.cells (nums .i64 T).toArray 3 (0, 0))) (eF : W2.heap[gf]? = some (.cells (nums .i64 F).toArray 3 (0, 0))) :
    impl_sidesOf.Bd w W2 A0 c0 l0 B Bw Bf Bt M N i gw gf (cw.set i (.slice (some ⟨gw, 0, none⟩) T.length T.length)) (cf.set i (.slice (some ⟨gf, 0, none⟩) F.length F.length)) (ts.set i z) T F := by
  have hl := h.len
  exact ⟨h2, (hd.move hk).set _ _ _, eT, eF, ⟨hM, hg⟩, by rw [List.getElem?_set_self (by omega)], by rw [List.getElem?_set_self (by omega)]⟩
/-- .. and its end. -/
theorem impl_sidesOf.Bd.head (h : impl_sidesOf.Bd w W A0 c0 l0 B Bw Bf Bt M N i gw gf cw cf ts T F) (eT : T = (impl_sidesOf.tabs (l0.drop i)).1) (eF : F = (impl_sidesOf.tabs (l0.drop i)).2) (et : ts.getD i 0 = (l0.drop i).sum) : impl_sidesOf.Head w W A0 c0 l0 B Bw Bf Bt M i := by
  have hn := h.no
  have g1 := (Array.getElem?_eq_some_iff.1 h.hT).1
  have g2 := (Array.getElem?_eq_some_iff.1 h.hF).1
  refine ⟨cw, cf, ts, by omega, h.st, fun j h1 h2 => ?_⟩
  by_cases hj : j = i
  · subst hj
    have a1 := h.aw; have a2 := h.af; have a3 := h.hT; have a4 := h.hF
    rw [eT] at a1 a3; rw [eF] at a2 a4
    exact ⟨⟨gw, ⟨by omega, g1⟩, by rw [List.getD, a1]; rfl, a3⟩, ⟨gf, ⟨by omega, g2⟩, by rw [List.getD, a2]; rfl, a4⟩, et⟩
  · have := h.done j (by omega) h2
    exact ⟨this.1.more (by omega), this.2.1.more (by omega), this.2.2⟩
end
/-- A row that is read and not empty: where it lies, and its cells. -/
theorem impl_sidesOf.C_cells {w : World} {A0 : Option Addr} {l0 : List Int} (h : Kd.C (Kd.int .i64) w A0 l0.length l0) (hp : 0 < l0.length) :
    ∃ b off, A0 = some ⟨b, off, none⟩ ∧ b < w.heap.size ∧ ∀ j, j < l0.length → w.cell? ⟨b, off + j, none⟩ = some (.int .i64 (l0.getD j 0)) := by
  obtain ⟨ad, rfl, h0⟩ := Kd.at_int h 0 (by omega) (by omega)
  have hs : ad.spot = none := by
    cases hsp : ad.spot with
    | none => rfl
    | some x =>
      simp only [Int.toNat_zero, Addr.add, if_true, World.cell?] at h0
      split at h0
      · simp [hsp] at h0
      · cases h0
  have hlt := World.block_lt_of_cell? w _ h0
  rw [add_block] at hlt
  obtain ⟨b, off, sp⟩ := ad
  simp only at hs hlt
  subst hs
  refine ⟨b, off, rfl, hlt, fun j hj => ?_⟩
  obtain ⟨ad', e', hc⟩ := Kd.at_int h (j : Int) (by omega) (by omega)
  cases e'
  rw [Int.toNat_natCast] at hc
  have e : (⟨b, off, none⟩ : Addr).add j = ⟨b, off + j, none⟩ := by
    unfold Addr.add
    by_cases hj0 : j = 0
    · subst hj0; rfl
    · rw [if_neg hj0]
  rw [e] at hc
  exact hc
theorem impl_sidesOf.Bd.zeros {w W W2 : World} {A0 : Option Addr} {c0 : Nat} {l0 : List Int} {B Bw Bf Bt M i gw gf sz : Nat} {cw cf : List Value} {ts : List Int} {z : Int} (h : impl_sidesOf.St w W A0 l0.length c0 B Bw Bf Bt M cw cf ts) (hd : impl_sidesOf.Done W M W.heap.size cw cf ts l0 (i + 1)) (hM : M ≤ W.heap.size) (hi : i < l0.length)
    (h2 : impl_sidesOf.St w W2 A0 l0.length c0 B Bw Bf Bt M (cw.set i (.slice (some ⟨gw, 0, none⟩) sz sz)) (cf.set i (.slice (some ⟨gf, 0, none⟩) sz sz)) (ts.set i z)) (hk : ∀ k, M ≤ k → k < W.heap.size → W2.heap[k]? = W.heap[k]?)
    (hg : W.heap.size ≤ gw ∧ W.heap.size ≤ gf ∧ gw ≠ gf) (eT : W2.heap[gw]? = some (.cells (nums .i64 (List.replicate sz 0)).toArray 3 (0, 0))) (eF : W2.heap[gf]? = some (.cells (nums .i64 (List.replicate sz 0)).toArray 3 (0, 0))) :
    ∃ cw' cf' ts', (∀ j, i < j → cw'[j]? = cw[j]? ∧ cf'[j]? = cf[j]?) ∧ ts'.getD i 0 = z ∧ impl_sidesOf.Bd w W2 A0 c0 l0 B Bw Bf Bt M W.heap.size i gw gf cw' cf' ts' (List.replicate sz 0) (List.replicate sz 0) := by
  have := impl_sidesOf.Bd.mk' (T := List.replicate sz 0) (F := List.replicate sz 0) h hd rfl hM hi (by simpa using h2) hk hg eT eF
  refine ⟨_, _, _, fun j hj => ⟨List.getElem?_set_ne (by omega), List.getElem?_set_ne (by omega)⟩, ?_, this⟩
  have hl := h.len
  simp [List.getD, show i < ts.length by omega]
theorem impl_sidesOf.Bd.two {w W W1 : World} {A0 : Option Addr} {c0 : Nat} {l0 : List Int} {B Bw Bf Bt M i sz : Nat} {cw cf : List Value} {ts : List Int} {z : Int} (h : impl_sidesOf.St w W A0 l0.length c0 B Bw Bf Bt M cw cf ts) (hd : impl_sidesOf.Done W M W.heap.size cw cf ts l0 (i + 1)) (hM : M ≤ W.heap.size) (hi : i < l0.length)
    (h1 : impl_sidesOf.St w W1 A0 l0.length c0 B Bw Bf Bt M cw cf (ts.set i z)) (hk : ∀ k, M ≤ k → k < W.heap.size → W1.heap[k]? = W.heap[k]?) (hs : W1.heap.size = W.heap.size) (gw gf : Nat) (hg : (gw = W1.heap.size ∧ gf = W1.heap.size + 1) ∨ (gw = W1.heap.size + 1 ∧ gf = W1.heap.size)) :
    ∃ gw' gf' cw' cf' ts', ts'.getD i 0 = z ∧ impl_sidesOf.Bd w ((((W1.setCell ⟨Bw, i, none⟩ (.slice (some ⟨gw, 0, none⟩) sz sz)).setCell ⟨Bf, i, none⟩ (.slice (some ⟨gf, 0, none⟩) sz sz)).alloc (.cells (nums .i64 (List.replicate sz 0)).toArray 3)).alloc (.cells (nums .i64 (List.replicate sz 0)).toArray 3)).drew A0 c0 l0 B Bw Bf Bt M W.heap.size i gw' gf' cw' cf' ts' (List.replicate sz 0) (List.replicate sz 0) := by
  have hi2 := h.hi
  have hne := h.ne
  have s1 : (W1.setCell ⟨Bw, i, none⟩ (.slice (some ⟨gw, 0, none⟩) sz sz)).heap.size = W1.heap.size := World.size_setCell _ _ _
  have s2 : ((W1.setCell ⟨Bw, i, none⟩ (.slice (some ⟨gw, 0, none⟩) sz sz)).setCell ⟨Bf, i, none⟩ (.slice (some ⟨gf, 0, none⟩) sz sz)).heap.size = W1.heap.size := by rw [World.size_setCell]; exact s1
  have h2 := ((((h1.setW i (.slice (some ⟨gw, 0, none⟩) sz sz)).setF i (.slice (some ⟨gf, 0, none⟩) sz sz)).alloc (by rw [s2]; omega) (.cells (nums .i64 (List.replicate sz 0)).toArray 3)).alloc (by rw [World.size_alloc, s2]; omega) (.cells (nums .i64 (List.replicate sz 0)).toArray 3)).drew
  obtain ⟨cw', cf', ts', _, hz, hB⟩ := impl_sidesOf.Bd.zeros h hd hM hi h2 (fun k hk1 hk2 => by
    rw [impl_sidesOf.heap_drew, impl_sidesOf.heap_push, if_neg (by rw [World.size_alloc, s2]; omega), impl_sidesOf.heap_push, if_neg (by rw [s2]; omega), heap_setCell_other _ _ _ _ (show k ≠ Bf by omega), heap_setCell_other _ _ _ _ (show k ≠ Bw by omega)]
    exact hk k hk1 hk2) (by omega)
    (by
      rw [impl_sidesOf.heap_drew, impl_sidesOf.heap_push, World.size_alloc, s2]
      rcases hg with hg | hg
      · rw [if_neg (by omega), impl_sidesOf.heap_push, s2, if_pos hg.1]
      · rw [if_pos hg.1])
    (by
      rw [impl_sidesOf.heap_drew, impl_sidesOf.heap_push, World.size_alloc, s2]
      rcases hg with hg | hg
      · rw [if_pos hg.2]
      · rw [if_neg (by omega), impl_sidesOf.heap_push, s2, if_pos hg.2])
  exact ⟨gw, gf, cw', cf', ts', hz, hB⟩
section
variable {w W : World} {A0 : Option Addr} {c0 : Nat} {l0 : List Int} {B Bw Bf Bt M N i gw gf : Nat} {cw cf : List Value} {ts T F : List Int}
/-- The rows of the piece behind. -/
theorem impl_sidesOf.Bd.next (h : impl_sidesOf.Bd w W A0 c0 l0 B Bw Bf Bt M N i gw gf cw cf ts T F) (hi : i < l0.length) : ∃ g1 g2, cw[i + 1]? = some (.slice (some ⟨g1, 0, none⟩) (impl_sidesOf.tabs (l0.drop (i + 1))).1.length (impl_sidesOf.tabs (l0.drop (i + 1))).1.length) ∧ cf[i + 1]? = some (.slice (some ⟨g2, 0, none⟩) (impl_sidesOf.tabs (l0.drop (i + 1))).2.length (impl_sidesOf.tabs (l0.drop (i + 1))).2.length) := by
  obtain ⟨⟨g1, _, e1, _⟩, ⟨g2, _, e2, _⟩, _⟩ := h.done (i + 1) (Nat.le_refl _) (by omega)
  have hl := h.st.len
  refine ⟨g1, g2, ?_, ?_⟩
  · rw [← e1, List.getD, List.getElem?_eq_getElem (by omega)]; rfl
  · rw [← e2, List.getD, List.getElem?_eq_getElem (by omega)]; rfl
theorem impl_sidesOf.Bd.cells (h : impl_sidesOf.Bd w W A0 c0 l0 B Bw Bf Bt M N i gw gf cw cf ts T F) (hi : i < l0.length) {g1 g2 m1 m2 : Nat} (e1 : cw[i + 1]? = some (.slice (some ⟨g1, 0, none⟩) m1 m1)) (e2 : cf[i + 1]? = some (.slice (some ⟨g2, 0, none⟩) m2 m2)) :
    W.cell? ⟨Bw, i + 1, none⟩ = some (.slice (some ⟨g1, 0, none⟩) m1 m1) ∧ W.cell? ⟨Bf, i + 1, none⟩ = some (.slice (some ⟨g2, 0, none⟩) m2 m2) ∧ W.cell? ⟨Bw, i, none⟩ = some (.slice (some ⟨gw, 0, none⟩) T.length T.length) ∧ W.cell? ⟨Bf, i, none⟩ = some (.slice (some ⟨gf, 0, none⟩) F.length F.length) ∧
      (∀ k, k < (impl_sidesOf.tabs (l0.drop (i + 1))).1.length → W.cell? ⟨g1, k, none⟩ = some (.int .i64 (rd (impl_sidesOf.tabs (l0.drop (i + 1))).1 (k : Int)))) ∧ (∀ k, k < (impl_sidesOf.tabs (l0.drop (i + 1))).2.length → W.cell? ⟨g2, k, none⟩ = some (.int .i64 (rd (impl_sidesOf.tabs (l0.drop (i + 1))).2 (k : Int)))) := by
  obtain ⟨⟨g1', _, a1, b1⟩, ⟨g2', _, a2, b2⟩, _⟩ := h.done (i + 1) (Nat.le_refl _) (by omega)
  rw [List.getD, e1] at a1
  rw [List.getD, e2] at a2
  have a1 : Value.slice (some ⟨g1, 0, none⟩) m1 m1 = _ := a1
  have a2 : Value.slice (some ⟨g2, 0, none⟩) m2 m2 = _ := a2
  injection a1 with a1 _ _; injection a1 with a1; injection a1 with a1 _ _
  injection a2 with a2 _ _; injection a2 with a2; injection a2 with a2 _ _
  subst a1; subst a2
  exact ⟨(h.st.cellW _ _ e1).1, (h.st.cellF _ _ e2).1, (h.st.cellW _ _ h.aw).1, (h.st.cellF _ _ h.af).1, fun k hk => (impl_sidesOf.row_cell b1 k hk).1, fun k hk => (impl_sidesOf.row_cell b2 k hk).1⟩
theorem impl_sidesOf.fill_set (k sz : Nat) (hk : k < sz) : (List.replicate k (21 : Int) ++ List.replicate (sz - k) 0).set k 21 = List.replicate (k + 1) 21 ++ List.replicate (sz - (k + 1)) 0 := by
  rw [List.set_append_right _ _ (by simp)]
  obtain ⟨d, hd⟩ : ∃ d, sz - k = d + 1 := ⟨sz - k - 1, by omega⟩
  rw [hd, show sz - (k + 1) = d by omega, List.length_replicate, Nat.sub_self, List.replicate_succ (n := d), List.set_cons_zero, List.replicate_succ' (n := k), List.append_assoc]
  rfl
end
/-- The tables of pieces, as a struct that is handed on. -/
def impl_sidesOf.Sides (W : World) (l0 : List Int) (v : Value) : Prop := ∃ A c Bw Bf Bt M N cw cf ts, v = .agg #[.slice A l0.length c, .slice (some ⟨Bw, 0, none⟩) (l0.length + 1) (l0.length + 1), .slice (some ⟨Bf, 0, none⟩) (l0.length + 1) (l0.length + 1), .slice (some ⟨Bt, 0, none⟩) (l0.length + 1) (l0.length + 1)] ∧
  W.heap[Bw]? = some (.cells cw.toArray 22 (0, 0)) ∧ W.heap[Bf]? = some (.cells cf.toArray 22 (0, 0)) ∧ W.heap[Bt]? = some (.cells (nums .i64 ts).toArray 3 (0, 0)) ∧ (cw.length = l0.length + 1 ∧ cf.length = l0.length + 1 ∧ ts.length = l0.length + 1) ∧ N ≤ W.heap.size ∧ impl_sidesOf.Done W M N cw cf ts l0 0
theorem impl_sidesOf.Sides.move {W W1 : World} {l0 : List Int} {v : Value} (h : impl_sidesOf.Sides W l0 v) (hb : Below W.heap.size W W1) : impl_sidesOf.Sides W1 l0 v := by
  obtain ⟨A, c, Bw, Bf, Bt, M, N, cw, cf, ts, e, h1, h2, h3, h4, h5, h6⟩ := h
  have lt : ∀ {k : Nat} {o : Obj}, W.heap[k]? = some o → W1.heap[k]? = some o := fun {k o} hk => (hb.block k (Array.getElem?_eq_some_iff.1 hk).1).trans hk
  exact ⟨A, c, Bw, Bf, Bt, M, N, cw, cf, ts, e, lt h1, lt h2, lt h3, h4, Nat.le_trans h5 hb.size, h6.move (fun k _ hk => hb.block k (by omega))⟩
theorem impl_sidesOf.Head.sides {w W W' : World} {A0 : Option Addr} {c0 : Nat} {l0 : List Int} {B Bw Bf Bt M : Nat} (h : impl_sidesOf.Head w W A0 c0 l0 B Bw Bf Bt M 0) (hs : W'.heap.size = W.heap.size) (hk : ∀ k, k ≠ w.heap.size → W'.heap[k]? = W.heap[k]?) : impl_sidesOf.Sides W' l0 (.agg #[.slice A0 l0.length c0, .slice (some ⟨Bw, 0, none⟩) (l0.length + 1) (l0.length + 1), .slice (some ⟨Bf, 0, none⟩) (l0.length + 1) (l0.length + 1), .slice (some ⟨Bt, 0, none⟩) (l0.length + 1) (l0.length + 1)]) := by
  obtain ⟨cw, cf, ts, hM, hS, hD⟩ := h
  have hl := hS.lo
  have hi := hS.hi
  exact ⟨A0, c0, Bw, Bf, Bt, M, W.heap.size, cw, cf, ts, rfl, (hk _ (by omega)).trans hS.hw, (hk _ (by omega)).trans hS.hf, (hk _ (by omega)).trans hS.ht, hS.len, by omega, hD.move (fun k hk1 _ => hk k (by omega))⟩
theorem impl_sidesOf.St.cellR {w W : World} {A0 : Option Addr} {n c0 B Bw Bf Bt M : Nat} {cw cf : List Value} {ts : List Int} (h : impl_sidesOf.St w W A0 n c0 B Bw Bf Bt M cw cf ts) : W.cell? ⟨B, 0, none⟩ = some (.slice A0 n c0) ∧ ∀ j, j < 4 → W.cell? ⟨w.heap.size, j, none⟩ = some (.slice none 0 0) ∧ W.frozen? ⟨w.heap.size, j, none⟩ = false := by
  refine ⟨by rw [cell_of_row W _ _ _ _ _ h.hB]; rfl, fun j hj => ⟨?_, frozen_of_row W _ _ _ _ h.hr⟩⟩
  rw [cell_of_row W _ _ _ _ _ h.hr]
  obtain rfl | rfl | rfl | rfl : j = 0 ∨ j = 1 ∨ j = 2 ∨ j = 3 := by omega
  all_goals rfl
set_option maxHeartbeats 8000000 in
set_option maxRecDepth 100000 in
theorem impl_sidesOf.calls0 (A0 : Option Addr) (c0 : Nat) (l0 : List Int) (w : World) (hr0 : Kd.C (Kd.int .i64) w A0 l0.length l0) (hc0 : l0.length ≤ c0) (hl : l0.length ≤ 12) (hg : ∀ x ∈ l0, 1 ≤ x ∧ x ≤ 10000) :
    Calls Try.prog 47 #[.slice A0 l0.length c0] w fun e w' => ∃ v, e = .returned v ∧ impl_sidesOf.Sides w' l0 v ∧ Below w.heap.size w w' := by
  have HR := Aside0.mk hr0
  have HG := Aside0.mk hg
  have HC := Aside0.mk hc0
  clear hr0 hg hc0
  have h45 := impl_sidesOf.make45 (l0.length + 1) (by omega)
  have h22 := impl_sidesOf.make22 (l0.length + 1) (by omega)
  rw [show ((l0.length + 1 : Nat) : Int) = (l0.length : Int) + 1 by omega] at h45 h22
  obtain ⟨Z45, hZ45⟩ : ∃ Z, (List.replicate (l0.length + 1) (Value.slice none 0 0)).toArray = Z := ⟨_, rfl⟩
  obtain ⟨Z22, hZ22⟩ : ∃ Z, (nums .i64 (List.replicate (l0.length + 1) 0)).toArray = Z := ⟨_, rfl⟩
  rw [hZ45] at h45
  rw [hZ22] at h22
  have HZ := Aside0.mk (And.intro hZ45 hZ22)
  clear hZ45 hZ22
  go_enter Try.func47, Try.ntmps47
  go_upto_region 2 with fail
  go_cut [4, 19, 22, 25] (fun v4 v19 v22 v25 wx => Aside0 (impl_sidesOf.Pro w wx A0 l0.length c0 v4 v19 v22 v25))
  case first => as_aux_lemma =>
    go_region
    all_goals
      go_wp2_with fail
      go_meet
      case rel =>
        refine ⟨impl_sidesOf.Pro.mk' rfl rfl rfl rfl _ _ _ HZ.out.1.symm HZ.out.1.symm HZ.out.2.symm ?_ ?_ ?_ ?_ ?_ ?_ ?_ ?_⟩
        case refine_8 => repeat (first | apply below_drew | apply below_alloc | exact Below.refl _ _)
        case refine_7 => refine ⟨?_, ?_, ?_, ?_⟩ <;> omega
        case refine_6 => refine ⟨⟨?_, ?_, ?_⟩, ?_, ?_, ?_⟩ <;> omega
        all_goals (simp only [impl_sidesOf.heap_drew, impl_sidesOf.heap_push, World.size_alloc, if_true]; repeat (first | rfl | rw [if_pos (by omega)] | rw [if_neg (by omega)]))
  case rest =>
    obtain ⟨B, Bw, Bf, Bt, M, rfl, e19, e22, e25, hM, hS⟩ := hcut.out
    clear e19 e22 e25
    have HM := Aside0.mk hM
    have HS := Aside0.mk hS
    obtain ⟨b1, b2, b3⟩ := hS.cellB
    obtain ⟨w1, w2⟩ := hS.cellW l0.length (.slice none 0 0) (by simp)
    obtain ⟨f1, f2⟩ := hS.cellF l0.length (.slice none 0 0) (by simp)
    obtain ⟨n1, n2, n3, n4⟩ := hS.ne
    obtain ⟨n11, n12, n13⟩ := n1
    have hsz := hS.size
    obtain ⟨s1, s2, s3, s4⟩ := hsz
    have n2' : Bf ≠ Bw := Ne.symm n2
    clear hcut hM hS
    go_upto_region 3 with fail
    go_cut [] (fun wx => Aside0 (impl_sidesOf.Head w wx A0 c0 l0 B Bw Bf Bt M l0.length))
    case first => as_aux_lemma =>
      go_region
      all_goals
        go_wp2_with fail
        go_meet
        case rel =>
          refine ⟨impl_sidesOf.first_rows ((((HS.out.setW _ _).setF _ _).alloc ?_ _).alloc ?_ _).drew ?_ ?_ ?_ ?_ ?_⟩
          case refine_1 => have := HM.out; simp only [World.size_setCell]; omega
          case refine_2 => have := HM.out; simp only [World.size_setCell, World.size_alloc]; omega
          case refine_3 => have := HM.out; change M ≤ (World.alloc _ _).heap.size; simp only [World.size_setCell, World.size_alloc]; omega
          case refine_4 => have := HM.out; omega
          case refine_5 => have := HM.out; omega
          all_goals (simp only [impl_sidesOf.heap_drew, impl_sidesOf.heap_push, World.size_alloc, World.size_setCell]; repeat (first | rfl | rw [if_pos (by omega)] | rw [if_neg (by omega)]))
    case rest =>
      clear HS HM b1 b2 b3 w1 w2 f1 f2 n2' n3 n4 n11 n12 n13 n2 s1 s2 s3 s4 h45 h22 HZ

      go_wp2_with fail
      go_loopg [5] l0.length (fun gg v5 wr => ∃ (m : Nat) (z : Int), m ≤ gg ∧ v5 = .int .i64 z ∧ Aside0 (m ≤ l0.length ∧ z = (m : Int) - 1) ∧ Aside0 (impl_sidesOf.Head w wr A0 c0 l0 B Bw Bf Bt M m))
      case atStart => exact ⟨l0.length, (l0.length : Int) - 1, Nat.le_refl _, rfl, ⟨Nat.le_refl _, rfl⟩, hcut⟩
      case round =>
        clear hcut
        obtain ⟨m, z, hgg, rfl, HZ, HH⟩ := hrel
        cases m with
        | zero =>
          as_aux_lemma =>
          obtain rfl : z = -1 := by have := HZ.out; omega
          obtain ⟨cw, cf, ts, hM, hS, hD⟩ := HH.out
          obtain ⟨b1, b2, b3⟩ := hS.cellB
          obtain ⟨b0, r0⟩ := hS.cellR
          obtain ⟨ra1, ra2⟩ := r0 0 (by omega)
          obtain ⟨rb1, rb2⟩ := r0 1 (by omega)
          obtain ⟨rc1, rc2⟩ := r0 2 (by omega)
          obtain ⟨rd1, rd2⟩ := r0 3 (by omega)
          have HB := Aside0.mk hS.below
          clear r0 hM hS hD HZ
          go_wp2_with fail
          refine bodyPost_ret (v := .agg #[.slice A0 l0.length c0, .slice (some ⟨Bw, 0, none⟩) (l0.length + 1) (l0.length + 1), .slice (some ⟨Bf, 0, none⟩) (l0.length + 1) (l0.length + 1), .slice (some ⟨Bt, 0, none⟩) (l0.length + 1) (l0.length + 1)]) (by simp [results, Try.results47, go_sem, *]) rfl ⟨_, rfl, HH.out.sides (by simp) (fun k hk => ?_), ?_⟩
          · rw [heap_setCell_other _ _ _ _ hk, heap_setCell_other _ _ _ _ hk, heap_setCell_other _ _ _ _ hk, heap_setCell_other _ _ _ _ hk]
          · exact (((HB.out.setCell (Nat.le_refl _) _).setCell (Nat.le_refl _) _).setCell (Nat.le_refl _) _).setCell (Nat.le_refl _) _
        | succ i =>
          obtain rfl : z = (i : Int) := by have := HZ.out; omega
          have hi : i < l0.length := by have := HZ.out; omega
          obtain ⟨cw, cf, ts, hM, hS, hD⟩ := HH.out
          obtain ⟨b, off, rfl, hbw, hcell⟩ := impl_sidesOf.C_cells HR.out (by omega)
          have HM := Aside0.mk hM
          have HS := Aside0.mk hS
          have HD := Aside0.mk hD
          obtain ⟨p, hp⟩ : ∃ p : Int, l0[i] = p := ⟨_, rfl⟩
          obtain ⟨t, ht⟩ : ∃ t : Int, (l0.drop (i + 1)).sum = t := ⟨_, rfl⟩
          have hx : wr.cell? ⟨b, off + i, none⟩ = some (.int .i64 p) := by
            rw [(hS.below.cell (p := ⟨b, off + i, none⟩) hbw), hcell i hi, ← hp]
            simp [List.getD, hi]
          obtain ⟨b1, b2, b3⟩ := hS.cellB
          have ht1 := (hS.cellT (i + 1) (by omega)).1
          rw [(hD (i + 1) (Nat.le_refl _) (by omega)).2.2, ht] at ht1
          obtain ⟨ht2, ht3⟩ := hS.cellT i (by omega)
          obtain ⟨x0, hx0⟩ : ∃ x : Int, ts.getD i 0 = x := ⟨_, rfl⟩
          rw [hx0] at ht2
          have hpb : 1 ≤ p ∧ p ≤ 10000 := by rw [← hp]; exact HG.out _ (List.getElem_mem hi)
          have htb : 0 ≤ t ∧ t ≤ 120000 := by
            have := impl_sidesOf.sum_le (l0.drop (i + 1)) (fun x hx => HG.out x (List.mem_of_mem_drop hx))
            rw [ht, List.length_drop] at this
            omega
          have hlt : (0 : Int) ≤ i ∧ (i : Int) < (l0.length : Int) := by omega
          have hic : i ≤ c0 := by have := HC.out; omega
          have HP := Aside0.mk (And.intro hp ht)
          clear hcell hM hS hD hp ht hx0 HH HZ
          go_upto_region 8 with fail
          go_region
          generalize hw1 : (wr.setCell ⟨Bt, i, none⟩ (.int .i64 (t + p))).drew = w1
          have HS1 : Aside0 (impl_sidesOf.St w w1 (some ⟨b, off, none⟩) l0.length c0 B Bw Bf Bt M cw cf (ts.set i (t + p))) := ⟨by rw [← hw1]; exact (HS.out.setT i (t + p)).drew⟩
          have HK1 : Aside0 ((∀ k, M ≤ k → k < wr.heap.size → w1.heap[k]? = wr.heap[k]?) ∧ w1.heap.size = wr.heap.size) := ⟨fun k hk _ => by rw [← hw1]; exact heap_setCell_other _ _ _ _ (by have := HS.out.hi; show k ≠ Bt; omega), by rw [← hw1]; exact World.size_setCell _ _ _⟩
          clear hw1 hx b1 b2 b3 ht1 ht2 ht3
          obtain ⟨b1, b2, b3⟩ := HS1.out.cellB
          have ht1 := (HS1.out.cellT i (by omega)).1
          rw [show (ts.set i (t + p)).getD i 0 = t + p by have := HS.out.len; simp [List.getD, show i < ts.length by omega]] at ht1
          obtain ⟨w1a, w1b⟩ := HS1.out.cellW i (cw[i]'(by have := HS.out.len; omega)) (by simp)
          obtain ⟨f1a, f1b⟩ := HS1.out.cellF i (cf[i]'(by have := HS.out.len; omega)) (by simp)
          generalize cw[i]'(by have := HS.out.len; omega) = cwi at w1a
          generalize cf[i]'(by have := HS.out.len; omega) = cfi at f1a
          have n2 := HS.out.ne.2.1
          have n2' : Bf ≠ Bw := Ne.symm n2
          obtain ⟨n3, n4, n5⟩ := HS.out.ne.1
          obtain ⟨sz, hsz⟩ : ∃ sz : Nat, (sz : Int) = 2 * (t + p) + 1 := ⟨(2 * (t + p) + 1).toNat, by omega⟩
          have mk := impl_sidesOf.make22 sz (by omega)
          have HSZ := Aside0.mk hsz
          have hszb : sz ≤ 300000 := by omega
          clear hsz
          have hlt2 : (i : Int) < (l0.length : Int) + 1 := by omega
          obtain ⟨s1, s2, s3, s4⟩ := HS1.out.size
          go_upto_region 10 with fail
          rw [← HSZ.out]
          go_cut [] (fun wx => Aside0 (∃ gw gf cw' cf' ts', ts'.getD i 0 = t + p ∧ impl_sidesOf.Bd w wx (some ⟨b, off, none⟩) c0 l0 B Bw Bf Bt M wr.heap.size i gw gf cw' cf' ts' (List.replicate sz 0) (List.replicate sz 0)))
          case first => as_aux_lemma =>
            go_region
            all_goals
              go_wp2_with fail
              go_meet
              case rel =>
                first
                | exact ⟨impl_sidesOf.Bd.two HS.out HD.out HM.out hi HS1.out HK1.out.1 HK1.out.2 _ _ (Or.inl ⟨rfl, rfl⟩)⟩
                | exact ⟨impl_sidesOf.Bd.two HS.out HD.out HM.out hi HS1.out HK1.out.1 HK1.out.2 _ _ (Or.inr ⟨rfl, rfl⟩)⟩
          case rest =>
            obtain ⟨gw, gf, cw', cf', ts', hz, hB0⟩ := hcut.out
            have HB := Aside0.mk hB0
            have HT := Aside0.mk hz
            have HN := Aside0.mk hB0.no
            clear hcut HS1 HK1 HS HD HM b1 b2 b3 ht1 w1a w1b f1a f1b n2 n2' n3 n4 n5 mk s1 s2 s3 s4 hB0 hz
            generalize wr.heap.size = N at HB HN
            have HB' : Aside0 (impl_sidesOf.Bd w wc (some ⟨b, off, none⟩) c0 l0 B Bw Bf Bt M N i gw gf cw' cf' ts' (List.replicate sz 0) (List.replicate 0 21 ++ List.replicate (sz - 0) 0)) := HB
            clear HB
            go_wp2_with fail
            go_loopg [79] sz (fun gg v79 W2 => ∃ k : Nat, v79 = .int .i64 (k : Int) ∧ sz - k ≤ gg ∧ Aside0 (k ≤ sz) ∧ Aside0 (impl_sidesOf.Bd w W2 (some ⟨b, off, none⟩) c0 l0 B Bw Bf Bt M N i gw gf cw' cf' ts' (List.replicate sz 0) (List.replicate k 21 ++ List.replicate (sz - k) 0)))
            case atStart => exact ⟨0, rfl, by omega, ⟨Nat.zero_le _⟩, HB'⟩
            case round =>
              clear HB'
              obtain ⟨k, rfl, hgg2, HK, HB⟩ := hrel
              by_cases hks : k < sz
              · have hkb : (0 : Int) ≤ k ∧ (k : Int) < (sz : Int) := by omega
                have hl : (List.replicate k (21 : Int) ++ List.replicate (sz - k) 0).length = sz := by simp; omega
                obtain ⟨b1, b2, b3⟩ := HB.out.st.cellB
                have f1 := (HB.out.st.cellF _ _ HB.out.af).1
                rw [hl] at f1
                obtain ⟨f2, f3⟩ := impl_sidesOf.row_cell HB.out.hF k (by rw [hl]; exact hks)
                generalize rd (List.replicate k 21 ++ List.replicate (sz - k) 0) (k : Int) = xk at f2
                clear hl
                go_wp2_with fail
                go_roundg (sz - (k + 1))
                case measure => omega
                case rel => exact ⟨k + 1, by go_num, by omega, ⟨by omega⟩, ⟨by rw [← impl_sidesOf.fill_set k sz hks]; exact HB.out.setF k 21⟩⟩
              · obtain rfl : k = sz := by have := HK.out; omega
                have hkb : ¬ (k : Int) < (k : Int) := by omega
                obtain ⟨b1, b2, b3⟩ := HB.out.st.cellB
                obtain ⟨g1, g2, e1, e2⟩ := HB.out.next hi
                obtain ⟨tw, htw⟩ : ∃ x, (impl_sidesOf.tabs (l0.drop (i + 1))).1 = x := ⟨_, rfl⟩
                obtain ⟨tf, htf⟩ : ∃ x, (impl_sidesOf.tabs (l0.drop (i + 1))).2 = x := ⟨_, rfl⟩
                obtain ⟨m, hm⟩ : ∃ m : Nat, (m : Int) = 2 * t + 1 := ⟨(2 * t + 1).toNat, by omega⟩
                have hlen := impl_sidesOf.tabs_len (l0.drop (i + 1)) (fun x hx => HG.out x (List.mem_of_mem_drop hx))
                rw [HP.out.2, htw, htf, show (2 * t + 1).toNat = m by omega] at hlen
                rw [htw, hlen.1] at e1
                rw [htf, hlen.2] at e2
                have HE := Aside0.mk (And.intro e1 e2)
                have HTB := Aside0.mk (And.intro htw htf)
                have HLN := Aside0.mk hlen
                have HMM := Aside0.mk hm
                obtain ⟨c1, c2, c3, c4, _, _⟩ := HB.out.cells hi e1 e2
                have HB0 : Aside0 (impl_sidesOf.Bd w wr (some ⟨b, off, none⟩) c0 l0 B Bw Bf Bt M N i gw gf cw' cf' ts' (impl_sidesOf.rows p tw tf k 0).1 (impl_sidesOf.rows p tw tf k 0).2) := ⟨by have := HB.out; simpa [impl_sidesOf.rows] using this⟩
                clear HB e1 e2 htw htf hlen hm c2 c3 c4
                go_wp2_with fail
                go_loopg [97] m (fun gg v97 W3 => ∃ q : Nat, v97 = .int .i64 (q : Int) ∧ m - q ≤ gg ∧ Aside0 (q ≤ m) ∧ Aside0 (impl_sidesOf.Bd w W3 (some ⟨b, off, none⟩) c0 l0 B Bw Bf Bt M N i gw gf cw' cf' ts' (impl_sidesOf.rows p tw tf k q).1 (impl_sidesOf.rows p tw tf k q).2))
                case atStart => exact ⟨0, rfl, by omega, ⟨Nat.zero_le _⟩, HB0⟩
                case round =>
                  clear HB0 b1 b2 b3 c1
                  obtain ⟨q, rfl, hgg3, HQ, HB⟩ := hrel
                  by_cases hqm : q < m
                  · obtain ⟨wk, hwk⟩ : ∃ x, rd tw (q : Int) = x := ⟨_, rfl⟩
                    obtain ⟨fk, hfk⟩ : ∃ x, rd tf (q : Int) = x := ⟨_, rfl⟩
                    obtain ⟨c1, c2, c3, c4, c5, c6⟩ := HB.out.cells hi HE.out.1 HE.out.2
                    rw [HTB.out.1] at c5
                    rw [HTB.out.2] at c6
                    have hx := c5 q (by have := HLN.out; omega)
                    rw [hwk] at hx
                    have hqb : (0 : Int) ≤ q ∧ (q : Int) < (m : Int) := by omega
                    have hmb : m ≤ 300000 := by have := HMM.out; omega
                    have HWF := Aside0.mk (And.intro hwk hfk)
                    have HBs : Aside0 (impl_sidesOf.Bd w wr (some ⟨b, off, none⟩) c0 l0 B Bw Bf Bt M N i gw gf cw' cf' ts' (impl_sidesOf.steps p (q : Int) wk fk (impl_sidesOf.rows p tw tf k q) 0).1 (impl_sidesOf.steps p (q : Int) wk fk (impl_sidesOf.rows p tw tf k q) 0).2) := HB
                    clear c1 c2 c3 c4 c5 c6 hwk hfk HB
                    by_cases hw : 0 < wk
                    · have hwd : decide (0 < wk) = true := decide_eq_true hw
                      have HWN := Aside0.mk (hw)
                      go_wp2_with fail
                      clear hx
                      go_loopg [102] 3 (fun gg v102 W4 => ∃ s : Nat, v102 = .int .i64 (s : Int) ∧ 3 - s ≤ gg ∧ Aside0 (s ≤ 3) ∧ Aside0 (impl_sidesOf.Bd w W4 (some ⟨b, off, none⟩) c0 l0 B Bw Bf Bt M N i gw gf cw' cf' ts' (impl_sidesOf.steps p (q : Int) wk fk (impl_sidesOf.rows p tw tf k q) s).1 (impl_sidesOf.steps p (q : Int) wk fk (impl_sidesOf.rows p tw tf k q) s).2))
                      case atStart => exact ⟨0, rfl, by omega, ⟨Nat.zero_le _⟩, HBs⟩
                      case round =>
                        clear HBs
                        obtain ⟨s, rfl, hgg4, HS3, HB⟩ := hrel
                        obtain rfl | rfl | rfl | rfl : s = 0 ∨ s = 1 ∨ s = 2 ∨ s = 3 := by have := HS3.out; omega
                        · as_aux_lemma =>
                            have hlT : (impl_sidesOf.steps p (q : Int) wk fk (impl_sidesOf.rows p tw tf k q) 0).1.length = k ∧ (impl_sidesOf.steps p (q : Int) wk fk (impl_sidesOf.rows p tw tf k q) 0).2.length = k := by
                              have h1 := impl_sidesOf.steps_len p (q : Int) wk fk (impl_sidesOf.rows p tw tf k q) 0
                              have h2 := impl_sidesOf.rows_len p tw tf k q
                              exact ⟨h1.1.trans h2.1, h1.2.trans h2.2⟩
                            have hE : (0 : Int) ≤ (q : Int) ∧ (q : Int) < (k : Int) := by have := HSZ.out; have := HMM.out; omega
                            obtain ⟨b1, b2, b3⟩ := HB.out.st.cellB
                            obtain ⟨c1, c2, c3, c4, _, _⟩ := HB.out.cells hi HE.out.1 HE.out.2
                            rw [hlT.1] at c3
                            obtain ⟨x, hx⟩ : ∃ x, rd (impl_sidesOf.steps p (q : Int) wk fk (impl_sidesOf.rows p tw tf k q) 0).1 (q : Int) = x := ⟨_, rfl⟩
                            obtain ⟨y, hy⟩ : ∃ y, rd (impl_sidesOf.steps p (q : Int) wk fk (impl_sidesOf.rows p tw tf k q) 0).2 (q : Int) = y := ⟨_, rfl⟩
                            obtain ⟨t1, t2⟩ := impl_sidesOf.row_cell HB.out.hT (q) (by rw [hlT.1]; omega)
                            rw [show ((q : Nat) : Int) = (q : Int) by omega, hx] at t1
                            have HST := Aside0.mk (impl_sidesOf.steps_pos p (q : Int) wk fk (impl_sidesOf.rows p tw tf k q) 0 hw (q : Int) (by omega) hx hy 1 rfl)
                            have HY := Aside0.mk hy
                            have HL := Aside0.mk hlT
                            clear hx hy hlT c1 c2 c4 b2 b3
                            go_upto_region 27 with fail
                            generalize hW5 : wr.setCell ⟨gw, q, none⟩ (.int .i64 (wrap64 (x + wk))) = W5
                            have HB5 : Aside0 (impl_sidesOf.Bd w W5 (some ⟨b, off, none⟩) c0 l0 B Bw Bf Bt M N i gw gf cw' cf' ts' ((impl_sidesOf.steps p (q : Int) wk fk (impl_sidesOf.rows p tw tf k q) 0).1.set (q) (wrap64 (x + wk))) (impl_sidesOf.steps p (q : Int) wk fk (impl_sidesOf.rows p tw tf k q) 0).2) := ⟨by rw [← hW5]; exact HB.out.setT _ _⟩
                            clear hW5 t1 t2 b1 c3 HB
                            obtain ⟨b1, b2, b3⟩ := HB5.out.st.cellB
                            obtain ⟨c1, c2, c3, c4, _, c6⟩ := HB5.out.cells hi HE.out.1 HE.out.2
                            rw [HTB.out.2] at c6
                            have hx2 := c6 q (by have := HLN.out; omega)
                            rw [HWF.out.2] at hx2
                            rw [HL.out.2] at c4
                            obtain ⟨t1, t2⟩ := impl_sidesOf.row_cell HB5.out.hF (q) (by rw [HL.out.2]; omega)
                            rw [show ((q : Nat) : Int) = (q : Int) by omega, HY.out] at t1
                            have hlt3 : (i : Int) + 1 < (l0.length : Int) + 1 := by omega
                            clear c1 c3 c6 b1 b3
                            obtain ⟨z, hz1, hz2⟩ := impl_sidesOf.mn_ex1 y fk
                            have HZN := Aside0.mk hz2
                            clear hz2
                            go_region
                            go_wp2_with fail
                            go_roundg (3 - 1)
                            case measure => omega
                            case rel => exact ⟨1, by first | rfl | go_num, by omega, ⟨by omega⟩, ⟨by rw [HST.out, HZN.out]; (try simp only [Int.toNat_natCast]); exact (HB5.out.setF (q) z).drew⟩⟩
                        · as_aux_lemma =>
                            have hlT : (impl_sidesOf.steps p (q : Int) wk fk (impl_sidesOf.rows p tw tf k q) 1).1.length = k ∧ (impl_sidesOf.steps p (q : Int) wk fk (impl_sidesOf.rows p tw tf k q) 1).2.length = k := by
                              have h1 := impl_sidesOf.steps_len p (q : Int) wk fk (impl_sidesOf.rows p tw tf k q) 1
                              have h2 := impl_sidesOf.rows_len p tw tf k q
                              exact ⟨h1.1.trans h2.1, h1.2.trans h2.2⟩
                            have hE : (0 : Int) ≤ ((q : Int) + p) ∧ ((q : Int) + p) < (k : Int) := by have := HSZ.out; have := HMM.out; omega
                            obtain ⟨b1, b2, b3⟩ := HB.out.st.cellB
                            obtain ⟨c1, c2, c3, c4, _, _⟩ := HB.out.cells hi HE.out.1 HE.out.2
                            rw [hlT.1] at c3
                            obtain ⟨x, hx⟩ : ∃ x, rd (impl_sidesOf.steps p (q : Int) wk fk (impl_sidesOf.rows p tw tf k q) 1).1 ((q : Int) + p) = x := ⟨_, rfl⟩
                            obtain ⟨y, hy⟩ : ∃ y, rd (impl_sidesOf.steps p (q : Int) wk fk (impl_sidesOf.rows p tw tf k q) 1).2 ((q : Int) + p) = y := ⟨_, rfl⟩
                            obtain ⟨t1, t2⟩ := impl_sidesOf.row_cell HB.out.hT (((q : Int) + p).toNat) (by rw [hlT.1]; omega)
                            rw [show ((((q : Int) + p).toNat : Nat) : Int) = ((q : Int) + p) by omega, hx] at t1
                            have HST := Aside0.mk (impl_sidesOf.steps_pos p (q : Int) wk fk (impl_sidesOf.rows p tw tf k q) 1 hw ((q : Int) + p) (by omega) hx hy 0 rfl)
                            have HY := Aside0.mk hy
                            have HL := Aside0.mk hlT
                            clear hx hy hlT c1 c2 c4 b2 b3
                            go_upto_region 27 with fail
                            generalize hW5 : wr.setCell ⟨gw, ((q : Int) + p).toNat, none⟩ (.int .i64 (wrap64 (x + wk))) = W5
                            have HB5 : Aside0 (impl_sidesOf.Bd w W5 (some ⟨b, off, none⟩) c0 l0 B Bw Bf Bt M N i gw gf cw' cf' ts' ((impl_sidesOf.steps p (q : Int) wk fk (impl_sidesOf.rows p tw tf k q) 1).1.set (((q : Int) + p).toNat) (wrap64 (x + wk))) (impl_sidesOf.steps p (q : Int) wk fk (impl_sidesOf.rows p tw tf k q) 1).2) := ⟨by rw [← hW5]; exact HB.out.setT _ _⟩
                            clear hW5 t1 t2 b1 c3 HB
                            obtain ⟨b1, b2, b3⟩ := HB5.out.st.cellB
                            obtain ⟨c1, c2, c3, c4, _, c6⟩ := HB5.out.cells hi HE.out.1 HE.out.2
                            rw [HTB.out.2] at c6
                            have hx2 := c6 q (by have := HLN.out; omega)
                            rw [HWF.out.2] at hx2
                            rw [HL.out.2] at c4
                            obtain ⟨t1, t2⟩ := impl_sidesOf.row_cell HB5.out.hF (((q : Int) + p).toNat) (by rw [HL.out.2]; omega)
                            rw [show ((((q : Int) + p).toNat : Nat) : Int) = ((q : Int) + p) by omega, HY.out] at t1
                            have hlt3 : (i : Int) + 1 < (l0.length : Int) + 1 := by omega
                            clear c1 c3 c6 b1 b3
                            obtain ⟨z, hz1, hz2⟩ := impl_sidesOf.mn_ex0 y fk
                            have HZN := Aside0.mk hz2
                            clear hz2
                            go_region
                            go_wp2_with fail
                            go_roundg (3 - 2)
                            case measure => omega
                            case rel => exact ⟨2, by first | rfl | go_num, by omega, ⟨by omega⟩, ⟨by rw [HST.out, HZN.out]; (try simp only [Int.toNat_natCast]); exact (HB5.out.setF (((q : Int) + p).toNat) z).drew⟩⟩
                        · as_aux_lemma =>
                            have hlT : (impl_sidesOf.steps p (q : Int) wk fk (impl_sidesOf.rows p tw tf k q) 2).1.length = k ∧ (impl_sidesOf.steps p (q : Int) wk fk (impl_sidesOf.rows p tw tf k q) 2).2.length = k := by
                              have h1 := impl_sidesOf.steps_len p (q : Int) wk fk (impl_sidesOf.rows p tw tf k q) 2
                              have h2 := impl_sidesOf.rows_len p tw tf k q
                              exact ⟨h1.1.trans h2.1, h1.2.trans h2.2⟩
                            have hE : (0 : Int) ≤ ((q : Int) + 2 * p) ∧ ((q : Int) + 2 * p) < (k : Int) := by have := HSZ.out; have := HMM.out; omega
                            obtain ⟨b1, b2, b3⟩ := HB.out.st.cellB
                            obtain ⟨c1, c2, c3, c4, _, _⟩ := HB.out.cells hi HE.out.1 HE.out.2
                            rw [hlT.1] at c3
                            obtain ⟨x, hx⟩ : ∃ x, rd (impl_sidesOf.steps p (q : Int) wk fk (impl_sidesOf.rows p tw tf k q) 2).1 ((q : Int) + 2 * p) = x := ⟨_, rfl⟩
                            obtain ⟨y, hy⟩ : ∃ y, rd (impl_sidesOf.steps p (q : Int) wk fk (impl_sidesOf.rows p tw tf k q) 2).2 ((q : Int) + 2 * p) = y := ⟨_, rfl⟩
                            obtain ⟨t1, t2⟩ := impl_sidesOf.row_cell HB.out.hT (((q : Int) + 2 * p).toNat) (by rw [hlT.1]; omega)
                            rw [show ((((q : Int) + 2 * p).toNat : Nat) : Int) = ((q : Int) + 2 * p) by omega, hx] at t1
                            have HST := Aside0.mk (impl_sidesOf.steps_pos p (q : Int) wk fk (impl_sidesOf.rows p tw tf k q) 2 hw ((q : Int) + 2 * p) (by omega) hx hy 1 rfl)
                            have HY := Aside0.mk hy
                            have HL := Aside0.mk hlT
                            clear hx hy hlT c1 c2 c4 b2 b3
                            go_upto_region 27 with fail
                            generalize hW5 : wr.setCell ⟨gw, ((q : Int) + 2 * p).toNat, none⟩ (.int .i64 (wrap64 (x + wk))) = W5
                            have HB5 : Aside0 (impl_sidesOf.Bd w W5 (some ⟨b, off, none⟩) c0 l0 B Bw Bf Bt M N i gw gf cw' cf' ts' ((impl_sidesOf.steps p (q : Int) wk fk (impl_sidesOf.rows p tw tf k q) 2).1.set (((q : Int) + 2 * p).toNat) (wrap64 (x + wk))) (impl_sidesOf.steps p (q : Int) wk fk (impl_sidesOf.rows p tw tf k q) 2).2) := ⟨by rw [← hW5]; exact HB.out.setT _ _⟩
                            clear hW5 t1 t2 b1 c3 HB
                            obtain ⟨b1, b2, b3⟩ := HB5.out.st.cellB
                            obtain ⟨c1, c2, c3, c4, _, c6⟩ := HB5.out.cells hi HE.out.1 HE.out.2
                            rw [HTB.out.2] at c6
                            have hx2 := c6 q (by have := HLN.out; omega)
                            rw [HWF.out.2] at hx2
                            rw [HL.out.2] at c4
                            obtain ⟨t1, t2⟩ := impl_sidesOf.row_cell HB5.out.hF (((q : Int) + 2 * p).toNat) (by rw [HL.out.2]; omega)
                            rw [show ((((q : Int) + 2 * p).toNat : Nat) : Int) = ((q : Int) + 2 * p) by omega, HY.out] at t1
                            have hlt3 : (i : Int) + 1 < (l0.length : Int) + 1 := by omega
                            clear c1 c3 c6 b1 b3
                            obtain ⟨z, hz1, hz2⟩ := impl_sidesOf.mn_ex1 y fk
                            have HZN := Aside0.mk hz2
                            clear hz2
                            go_region
                            go_wp2_with fail
                            go_roundg (3 - 3)
                            case measure => omega
                            case rel => exact ⟨3, by first | rfl | go_num, by omega, ⟨by omega⟩, ⟨by rw [HST.out, HZN.out]; (try simp only [Int.toNat_natCast]); exact (HB5.out.setF (((q : Int) + 2 * p).toNat) z).drew⟩⟩
                        · go_wp2_with fail
                          go_roundg (m - (q + 1))
                          case measure => omega
                          case rel => exact ⟨q + 1, by go_num, by omega, ⟨by omega⟩, ⟨by have := HB.out; rw [← HWF.out.1, ← HWF.out.2] at this; exact this⟩⟩
                    · have hwd : decide (0 < wk) = false := decide_eq_false hw
                      have HWN := Aside0.mk (Int.not_lt.1 hw)
                      go_wp2_with fail
                      clear hx
                      go_loopg [102] 3 (fun gg v102 W4 => ∃ s : Nat, v102 = .int .i64 (s : Int) ∧ 3 - s ≤ gg ∧ Aside0 (s ≤ 3) ∧ Aside0 (impl_sidesOf.Bd w W4 (some ⟨b, off, none⟩) c0 l0 B Bw Bf Bt M N i gw gf cw' cf' ts' (impl_sidesOf.steps p (q : Int) wk fk (impl_sidesOf.rows p tw tf k q) s).1 (impl_sidesOf.steps p (q : Int) wk fk (impl_sidesOf.rows p tw tf k q) s).2))
                      case atStart => exact ⟨0, rfl, by omega, ⟨Nat.zero_le _⟩, HBs⟩
                      case round =>
                        clear HBs
                        obtain ⟨s, rfl, hgg4, HS3, HB⟩ := hrel
                        obtain rfl | rfl | rfl | rfl : s = 0 ∨ s = 1 ∨ s = 2 ∨ s = 3 := by have := HS3.out; omega
                        · as_aux_lemma =>
                            have hlT : (impl_sidesOf.steps p (q : Int) wk fk (impl_sidesOf.rows p tw tf k q) 0).1.length = k ∧ (impl_sidesOf.steps p (q : Int) wk fk (impl_sidesOf.rows p tw tf k q) 0).2.length = k := by
                              have h1 := impl_sidesOf.steps_len p (q : Int) wk fk (impl_sidesOf.rows p tw tf k q) 0
                              have h2 := impl_sidesOf.rows_len p tw tf k q
                              exact ⟨h1.1.trans h2.1, h1.2.trans h2.2⟩
                            have hE : (0 : Int) ≤ (q : Int) ∧ (q : Int) < (k : Int) := by have := HSZ.out; have := HMM.out; omega
                            obtain ⟨b1, b2, b3⟩ := HB.out.st.cellB
                            obtain ⟨c1, c2, c3, c4, _, _⟩ := HB.out.cells hi HE.out.1 HE.out.2
                            rw [hlT.1] at c3
                            obtain ⟨x, hx⟩ : ∃ x, rd (impl_sidesOf.steps p (q : Int) wk fk (impl_sidesOf.rows p tw tf k q) 0).1 (q : Int) = x := ⟨_, rfl⟩
                            obtain ⟨y, hy⟩ : ∃ y, rd (impl_sidesOf.steps p (q : Int) wk fk (impl_sidesOf.rows p tw tf k q) 0).2 (q : Int) = y := ⟨_, rfl⟩
                            obtain ⟨t1, t2⟩ := impl_sidesOf.row_cell HB.out.hT (q) (by rw [hlT.1]; omega)
                            rw [show ((q : Nat) : Int) = (q : Int) by omega, hx] at t1
                            have HST := Aside0.mk (impl_sidesOf.steps_neg p (q : Int) wk fk (impl_sidesOf.rows p tw tf k q) 0 (Int.not_lt.2 HWN.out) (q : Int) (by omega) hx)
                            clear hx hy hlT c1 c2 c4 b2 b3
                            go_wp2_with fail
                            go_roundg (3 - 1)
                            case measure => omega
                            case rel => exact ⟨1, by first | rfl | go_num, by omega, ⟨by omega⟩, ⟨by rw [HST.out]; (try simp only [Int.toNat_natCast]); exact HB.out.setT (q) (wrap64 (x + wk))⟩⟩
                        · as_aux_lemma =>
                            have hlT : (impl_sidesOf.steps p (q : Int) wk fk (impl_sidesOf.rows p tw tf k q) 1).1.length = k ∧ (impl_sidesOf.steps p (q : Int) wk fk (impl_sidesOf.rows p tw tf k q) 1).2.length = k := by
                              have h1 := impl_sidesOf.steps_len p (q : Int) wk fk (impl_sidesOf.rows p tw tf k q) 1
                              have h2 := impl_sidesOf.rows_len p tw tf k q
                              exact ⟨h1.1.trans h2.1, h1.2.trans h2.2⟩
                            have hE : (0 : Int) ≤ ((q : Int) + p) ∧ ((q : Int) + p) < (k : Int) := by have := HSZ.out; have := HMM.out; omega
                            obtain ⟨b1, b2, b3⟩ := HB.out.st.cellB
                            obtain ⟨c1, c2, c3, c4, _, _⟩ := HB.out.cells hi HE.out.1 HE.out.2
                            rw [hlT.1] at c3
                            obtain ⟨x, hx⟩ : ∃ x, rd (impl_sidesOf.steps p (q : Int) wk fk (impl_sidesOf.rows p tw tf k q) 1).1 ((q : Int) + p) = x := ⟨_, rfl⟩
                            obtain ⟨y, hy⟩ : ∃ y, rd (impl_sidesOf.steps p (q : Int) wk fk (impl_sidesOf.rows p tw tf k q) 1).2 ((q : Int) + p) = y := ⟨_, rfl⟩
                            obtain ⟨t1, t2⟩ := impl_sidesOf.row_cell HB.out.hT (((q : Int) + p).toNat) (by rw [hlT.1]; omega)
                            rw [show ((((q : Int) + p).toNat : Nat) : Int) = ((q : Int) + p) by omega, hx] at t1
                            have HST := Aside0.mk (impl_sidesOf.steps_neg p (q : Int) wk fk (impl_sidesOf.rows p tw tf k q) 1 (Int.not_lt.2 HWN.out) ((q : Int) + p) (by omega) hx)
                            clear hx hy hlT c1 c2 c4 b2 b3
                            go_wp2_with fail
                            go_roundg (3 - 2)
                            case measure => omega
                            case rel => exact ⟨2, by first | rfl | go_num, by omega, ⟨by omega⟩, ⟨by rw [HST.out]; (try simp only [Int.toNat_natCast]); exact HB.out.setT (((q : Int) + p).toNat) (wrap64 (x + wk))⟩⟩
                        · as_aux_lemma =>
                            have hlT : (impl_sidesOf.steps p (q : Int) wk fk (impl_sidesOf.rows p tw tf k q) 2).1.length = k ∧ (impl_sidesOf.steps p (q : Int) wk fk (impl_sidesOf.rows p tw tf k q) 2).2.length = k := by
                              have h1 := impl_sidesOf.steps_len p (q : Int) wk fk (impl_sidesOf.rows p tw tf k q) 2
                              have h2 := impl_sidesOf.rows_len p tw tf k q
                              exact ⟨h1.1.trans h2.1, h1.2.trans h2.2⟩
                            have hE : (0 : Int) ≤ ((q : Int) + 2 * p) ∧ ((q : Int) + 2 * p) < (k : Int) := by have := HSZ.out; have := HMM.out; omega
                            obtain ⟨b1, b2, b3⟩ := HB.out.st.cellB
                            obtain ⟨c1, c2, c3, c4, _, _⟩ := HB.out.cells hi HE.out.1 HE.out.2
                            rw [hlT.1] at c3
                            obtain ⟨x, hx⟩ : ∃ x, rd (impl_sidesOf.steps p (q : Int) wk fk (impl_sidesOf.rows p tw tf k q) 2).1 ((q : Int) + 2 * p) = x := ⟨_, rfl⟩
                            obtain ⟨y, hy⟩ : ∃ y, rd (impl_sidesOf.steps p (q : Int) wk fk (impl_sidesOf.rows p tw tf k q) 2).2 ((q : Int) + 2 * p) = y := ⟨_, rfl⟩
                            obtain ⟨t1, t2⟩ := impl_sidesOf.row_cell HB.out.hT (((q : Int) + 2 * p).toNat) (by rw [hlT.1]; omega)
                            rw [show ((((q : Int) + 2 * p).toNat : Nat) : Int) = ((q : Int) + 2 * p) by omega, hx] at t1
                            have HST := Aside0.mk (impl_sidesOf.steps_neg p (q : Int) wk fk (impl_sidesOf.rows p tw tf k q) 2 (Int.not_lt.2 HWN.out) ((q : Int) + 2 * p) (by omega) hx)
                            clear hx hy hlT c1 c2 c4 b2 b3
                            go_wp2_with fail
                            go_roundg (3 - 3)
                            case measure => omega
                            case rel => exact ⟨3, by first | rfl | go_num, by omega, ⟨by omega⟩, ⟨by rw [HST.out]; (try simp only [Int.toNat_natCast]); exact HB.out.setT (((q : Int) + 2 * p).toNat) (wrap64 (x + wk))⟩⟩
                        · go_wp2_with fail
                          go_roundg (m - (q + 1))
                          case measure => omega
                          case rel => exact ⟨q + 1, by go_num, by omega, ⟨by omega⟩, ⟨by have := HB.out; rw [← HWF.out.1, ← HWF.out.2] at this; exact this⟩⟩
                  · obtain rfl : q = m := by have := HQ.out; omega
                    have hqb : ¬ (q : Int) < (q : Int) := by omega
                    go_wp2_with fail
                    go_roundg i
                    case measure => omega
                    case rel =>
                      have hdr : l0.drop i = p :: l0.drop (i + 1) := by rw [List.drop_eq_getElem_cons hi, HP.out.1]
                      have hk' : k = (2 * (p + (l0.drop (i + 1)).sum) + 1).toNat := by rw [HP.out.2]; have := HSZ.out; omega
                      have ht' : impl_sidesOf.tabs (l0.drop i) = impl_sidesOf.rows p tw tf k q := by
                        rw [hdr, impl_sidesOf.tabs, HTB.out.1, HTB.out.2, HLN.out.1, ← hk']
                      exact ⟨i, (i : Int) - 1, Nat.le_refl _, rfl, ⟨by omega, rfl⟩, ⟨HB.out.head (by rw [ht']) (by rw [ht']) (by rw [HT.out, hdr, List.sum_cons, HP.out.2]; omega)⟩⟩

end Go.Proofs.Ytobcoaafbekhaaa.Fb
