/- Functions of the program and of the reference as Lean functions, and the contracts of their calls: laid by a program of this repo (wip/gen.py), in part by hand. -/
import Derived.Test.YtgcpjjifiebijaaGreatDoorGx0
namespace Go.Proofs.YtgcpjjifiebijaaGreatDoor.G
open Go.RowKit Go.Proofs.YtgcpjjifiebijaaGreatDoorW.PrintWords Go.Proofs.YtgcpjjifiebijaaGreatDoorW.PrintLast Go.Proofs.YtgcpjjifiebijaaGreatDoorW.PrintMore
attribute [local go_sem] max2_int min2_int max_two min_two max_three min_three max_four min_four   -- for this text's walks alone
set_option linter.unusedVariables false
set_option linter.unusedSimpArgs false

/-! ### impl_negated: function 17 -/
theorem impl_negated.disable (w : World) : (callFunc 79 #[]).run Tryz.prog w = .ok (.value (.tuple #[])) w := run_call_mark0 Tryz.func79 (by kernel_rfl) (by kernel_rfl) (by kernel_rfl) .disable (by kernel_rfl) w
theorem impl_negated.enable (w : World) : (callFunc 81 #[]).run Tryz.prog w = .ok (.value (.tuple #[])) w := run_call_mark0 Tryz.func81 (by kernel_rfl) (by kernel_rfl) (by kernel_rfl) .enable (by kernel_rfl) w
theorem impl_negated.acquire (a : Addr) (w : World) : (callFunc 82 #[.pointer (some a)]).run Tryz.prog w = .ok (.value (.tuple #[])) w := run_call_marked Tryz.func82 (by kernel_rfl) (by kernel_rfl) (by kernel_rfl) .acquire (by kernel_rfl) a w
theorem impl_negated.releaseMerge (a : Addr) (w : World) : (callFunc 84 #[.pointer (some a)]).run Tryz.prog w = .ok (.value (.tuple #[])) w := run_call_marked Tryz.func84 (by kernel_rfl) (by kernel_rfl) (by kernel_rfl) .releaseMerge (by kernel_rfl) a w
set_option maxRecDepth 100000 in
set_option maxHeartbeats 1600000 in
theorem impl_negated.store_deferred (a : Addr) (x : Value) (u : FrameMode) (w : World) (hc : w.cell? a = some x) (hz : w.frozen? a = false) :
    CallsD Tryz.prog 60 #[.pointer (some a), .bool true] u w fun e u' w' => u' = u ∧ (e = .returned (.tuple #[]) ∧ w' = w.drew.setCell a (.int .u32 1)) := by
  have hc' : w.drew.cell? a = some x := by go_simp
  have hz' : w.drew.frozen? a = false := by go_simp
  have hst := run_call_store (P := Tryz.prog) Tryz.func72 (by kernel_rfl) (by kernel_rfl) (by kernel_rfl) (by kernel_rfl) (k := .u32) (y := 1) hc' hz'
  go_enter_d Tryz.func60, Tryz.ntmps60
  go_wp2
  go_region_calls
  all_goals (go_end0; exact ⟨rfl, rfl⟩)
set_option maxRecDepth 100000 in
set_option maxHeartbeats 1600000 in
theorem impl_negated.unlock_deferred (a : Addr) (u : FrameMode) (w : World) (hc : w.cell? a = some (.int .i32 1)) (hz : w.frozen? a = false) :
    CallsD Tryz.prog 59 #[.pointer (some a)] u w fun e u' w' => u' = u ∧ (e = .returned (.tuple #[]) ∧ w' = w.setCell a (.int .i32 0)) := by
  have hd := impl_negated.disable
  have he := impl_negated.enable
  have hr := impl_negated.releaseMerge
  have hadd := run_call_add (P := Tryz.prog) Tryz.func85 (by kernel_rfl) (by kernel_rfl) (by kernel_rfl) .i32 (by kernel_rfl) (y := -1) (s := 0) hc hz (by simp [go_sem]; rfl)
  have hcv := run_convert_to_unsafe (P := Tryz.prog) (src := 123) (dst := 127) Tryz.underlying123 Tryz.underlying127 (by kernel_rfl) hc
  go_enter_d Tryz.func59, Tryz.ntmps59
  go_wp2
  go_end0
  go_wp2
  go_end0
  exact ⟨rfl, rfl⟩
set_option maxRecDepth 100000 in
set_option maxHeartbeats 1600000 in
theorem impl_negated.lock_free (a : Addr) (w : World) (hc : w.cell? a = some (.int .i32 0)) (hz : w.frozen? a = false) :
    Calls Tryz.prog 58 #[.pointer (some a)] w fun e w' => e = .returned (.tuple #[]) ∧ w' = w.setCell a (.int .i32 1) := by
  have hd := impl_negated.disable
  have he := impl_negated.enable
  have ha := impl_negated.acquire
  have hcas := run_call_cas_hit (P := Tryz.prog) Tryz.func80 (by kernel_rfl) (by kernel_rfl) (by kernel_rfl) .i32 (by kernel_rfl) (y := 1) hc hz
  have hc' : (w.setCell a (.int .i32 1)).cell? a = some (.int .i32 1) := World.cell?_setCell_same w a _ hc
  have hcv := run_convert_to_unsafe (P := Tryz.prog) (src := 123) (dst := 127) Tryz.underlying123 Tryz.underlying127 (by kernel_rfl) hc'
  go_enter Tryz.func58, Tryz.ntmps58
  go_wp2
  first | go_end0 | (simp only [Exit.inBlock, Exit.then]; refine bodyPost_ret (results_none rfl _ _ _) rfl ?_) | refine bodyPost_ret (results_none rfl _ _ _) rfl ?_
  go_wp2
  go_end0
  exact ⟨rfl, rfl⟩
/-- The table's cells when k of them are filled. -/
def impl_negated.T (k : Nat) : Array Value := ((List.range 256).map fun j : Nat => Value.int .u8 (if j < k then (j : Int) else 0)).toArray
theorem impl_negated.zero61 : (Tryz.prog.info? 90).map (fun i => (i.zero, i.size)) = some (some (.agg ((List.replicate 256 0).map (Value.int .u8)).toArray), 256) := by kernel_rfl
theorem impl_negated.built61 : Tryz.prog.built 90 [] = some ((List.replicate 256 0).map (Value.int .u8)).toArray := by kernel_rfl
theorem impl_negated.info61 : (Tryz.prog.info? 90).map (·.size) = some 256 := by kernel_rfl
theorem impl_negated.T_zero : ((List.replicate 256 0).map (Value.int .u8)).toArray = impl_negated.T 0 := by kernel_rfl
theorem impl_negated.T_size (k : Nat) : (impl_negated.T k).size = 256 := by simp [impl_negated.T]
theorem impl_negated.T_set (k : Nat) (h : k < 256) : (impl_negated.T k).setIfInBounds k (.int .u8 (k : Int)) = impl_negated.T (k + 1) := by
  apply Array.ext
  · simp [impl_negated.T]
  · intro i h1 h2
    have hi : i < 256 := by simpa [impl_negated.T] using h2
    rw [Array.getElem_setIfInBounds (by simpa [impl_negated.T] using hi)]
    by_cases e : k = i
    · subst e; simp [impl_negated.T]
    · rw [if_neg e]
      simp only [impl_negated.T, List.getElem_toArray, List.getElem_map, List.getElem_range]
      by_cases h3 : i < k
      · rw [if_pos h3, if_pos (by omega)]
      · rw [if_neg h3, if_neg (by omega)]
theorem impl_negated.T_get (k i : Nat) (h : i < 256) : (impl_negated.T k)[i]? = some (.int .u8 (if i < k then (i : Int) else 0)) := by
  simp [impl_negated.T, h]
/-- The table of the exchange. -/
def impl_negated.tab : Array Value := ((impl_negated.T 256).setIfInBounds 45 (.int .u8 43)).setIfInBounds 43 (.int .u8 45)
set_option maxHeartbeats 8000000 in
set_option maxRecDepth 100000 in
theorem impl_negated.build_any (B g cap : Nat) (w : World) (hcap : 4 ≤ cap) (h4 : w.cell? ⟨B, 4, none⟩ = some (.slice (some ⟨g, 0, none⟩) 4 cap))
    (c0 : w.cell? ⟨g, 0, none⟩ = some (.string ⟨#[43]⟩)) (c1 : w.cell? ⟨g, 1, none⟩ = some (.string ⟨#[45]⟩)) (c2 : w.cell? ⟨g, 2, none⟩ = some (.string ⟨#[45]⟩)) (c3 : w.cell? ⟨g, 3, none⟩ = some (.string ⟨#[43]⟩)) :
    Calls Tryz.prog 51 #[.pointer (some ⟨B, 0, none⟩)] w fun e w' => e = .returned (.iface 91 (.pointer (some ⟨w.heap.size, 0, none⟩))) ∧ w'.heap[w.heap.size]? = some (.cells impl_negated.tab 90 (0, 0)) ∧ Below w.heap.size w w' := by
  have hz0 := (zero_of_info impl_negated.zero61).1
  have hb0 : ∀ w, (Instr.build 90 #[]).run Tryz.prog w = .ok (.agg ((List.replicate 256 0).map (Value.int .u8)).toArray) w := fun w => run_build w 90 #[] _ impl_negated.built61
  have hst0 := fun (w : World) => run_storeCells_new (P := Tryz.prog) w 90 ((List.replicate 256 0).map (Value.int .u8)).toArray ((List.replicate 256 0).map (Value.int .u8)).toArray (by rw [impl_negated.info61]; simp) rfl (by simp [Value.oneCell'])
  have hZs : ((List.replicate 256 0).map (Value.int .u8)).toArray.size = 256 := by simp
  rw [impl_negated.T_zero] at hz0 hb0 hst0 hZs
  obtain ⟨Z, hZ⟩ : ∃ Z, impl_negated.T 0 = Z := ⟨_, rfl⟩
  rw [hZ] at hz0 hb0 hst0 hZs
  have HZ := Aside0.mk hZ
  clear hZ
  have hst1 := hst0 w
  clear hst0
  go_enter Tryz.func51, Tryz.ntmps51
  go_wp2_with fail
  refine wp_loop_rounds 3 ?_
  rw [rounds_succ]
  go_wp2_with fail
  rw [rounds_succ]
  go_wp2_with fail
  rw [rounds_succ]
  go_wp2_with fail
  have HG := Aside0.mk (show g < w.heap.size from World.block_lt_of_cell? w _ c0)
  have HCC := Aside0.mk (And.intro c0 (And.intro c1 (And.intro c2 c3)))
  have HW : Aside0 ((w.alloc (.cells Z 90)).heap[w.heap.size]? = some (.cells (impl_negated.T 0) 90 (0, 0)) ∧ Below w.heap.size w (w.alloc (.cells Z 90))) := ⟨by rw [HZ.out]; exact heap_alloc_new _ _, below_alloc (Below.refl _ _) _⟩
  clear c0 c1 c2 c3 h4 hz0 hb0 hst1 hZs
  go_loopg [61] 256 (fun gg v61 W => ∃ k : Nat, v61 = .int .i64 (k : Int) ∧ 256 - k ≤ gg ∧ Aside0 (k ≤ 256) ∧ Aside0 (W.heap[w.heap.size]? = some (.cells (impl_negated.T k) 90 (0, 0)) ∧ Below w.heap.size w W))
  case atStart => exact ⟨0, rfl, by omega, ⟨by omega⟩, HW⟩
  case round =>
    clear HW
    obtain ⟨k, rfl, hg, HK, HW⟩ := hrel
    by_cases hk : k < 256
    · have hkb : (0 : Int) ≤ k ∧ (k : Int) < 256 := by omega
      have hwr : IntKind.u8.wrap (k : Int) = k := by simp only [IntKind.wrap_u8]; omega
      have hcell := cell_of_row wr _ k _ _ _ HW.out.1
      rw [impl_negated.T_get k k hk, if_neg (by omega)] at hcell
      have hfro := frozen_of_row wr _ k _ _ HW.out.1
      go_wp2_with fail
      go_roundg (256 - (k + 1))
      case measure => omega
      case rel => exact ⟨k + 1, by go_num, by omega, ⟨by omega⟩, ⟨by rw [heap_setCell_same _ _ _ _ _ _ HW.out.1, impl_negated.T_set k hk], HW.out.2.setCell (Nat.le_refl _) _⟩⟩
    · obtain rfl : k = 256 := by have := HK.out; omega
      have hk2 : ¬ ((256 : Nat) : Int) < 256 := by omega
      obtain ⟨d0, d1, d2, d3⟩ := HCC.out
      have c0 := (HW.out.2.cell (p := ⟨g, 0, none⟩) HG.out).trans d0
      have c1 := (HW.out.2.cell (p := ⟨g, 1, none⟩) HG.out).trans d1
      have c2 := (HW.out.2.cell (p := ⟨g, 2, none⟩) HG.out).trans d2
      have c3 := (HW.out.2.cell (p := ⟨g, 3, none⟩) HG.out).trans d3
      have t45 := cell_of_row wr _ 45 _ _ _ HW.out.1
      rw [impl_negated.T_get 256 45 (by omega), if_pos (by omega)] at t45
      have t43 := cell_of_row wr _ 43 _ _ _ HW.out.1
      rw [impl_negated.T_get 256 43 (by omega), if_pos (by omega)] at t43
      have f45 := frozen_of_row wr _ 45 _ _ HW.out.1
      have f43 := frozen_of_row wr _ 43 _ _ HW.out.1
      have hgne : ¬ g = w.heap.size := by have := HG.out; omega
      have q45 : ((⟨#[45]⟩ : ByteArray)[0]'(by decide)).toNat = 45 := rfl
      have q43 : ((⟨#[43]⟩ : ByteArray)[0]'(by decide)).toNat = 43 := rfl
      clear d0 d1 d2 d3
      go_wp2_with fail
      refine wp_loop_rounds 3 ?_
      rw [rounds_succ]
      go_wp2_with fail
      rw [rounds_succ]
      go_wp2_with fail
      rw [rounds_succ]
      go_wp2_with fail
      go_ret
      refine ⟨rfl, ?_, (HW.out.2.setCell (Nat.le_refl _) _).setCell (Nat.le_refl _) _⟩
      rw [heap_setCell_same _ _ _ _ _ _ (heap_setCell_same _ _ _ _ _ _ HW.out.1)]
      rfl
theorem impl_negated.cells5 {w : World} {B : Nat} {a b c d e : Value} (H : w.heap[B]? = some (.cells #[a, b, c, d, e] 70 (0, 0))) :
    (w.cell? ⟨B, 0, none⟩ = some a ∧ w.cell? ⟨B, 1, none⟩ = some b ∧ w.cell? ⟨B, 2, none⟩ = some c ∧ w.cell? ⟨B, 3, none⟩ = some d ∧ w.cell? ⟨B, 4, none⟩ = some e) ∧ ∀ j, w.frozen? ⟨B, j, none⟩ = false := by
  refine ⟨⟨?_, ?_, ?_, ?_, ?_⟩, fun j => frozen_of_row w _ _ _ _ H⟩ <;> (rw [cell_of_row w _ _ _ _ _ H]; rfl)
set_option maxHeartbeats 8000000 in
set_option maxRecDepth 100000 in
theorem impl_negated.once_fn (w0 w : World) (B g cap : Nat) (d s m r : Value) (hcap : 4 ≤ cap) (hb : Below w0.heap.size w0 w) (hB : w0.heap.size ≤ B) (H : w.heap[B]? = some (.cells #[d, s, m, r, .slice (some ⟨g, 0, none⟩) 4 cap] 70 (0, 0)))
    (c0 : w.cell? ⟨g, 0, none⟩ = some (.string ⟨#[43]⟩)) (c1 : w.cell? ⟨g, 1, none⟩ = some (.string ⟨#[45]⟩)) (c2 : w.cell? ⟨g, 2, none⟩ = some (.string ⟨#[45]⟩)) (c3 : w.cell? ⟨g, 3, none⟩ = some (.string ⟨#[43]⟩)) :
    Calls Tryz.prog 42 #[.pointer (some ⟨B, 0, none⟩)] w fun e w' => e = .returned (.tuple #[]) ∧ ∃ h, w'.heap[B]? = some (.cells #[d, s, m, .iface 91 (.pointer (some ⟨h, 0, none⟩)), .slice none 0 0] 70 (0, 0)) ∧ w'.heap[h]? = some (.cells impl_negated.tab 90 (0, 0)) ∧ Below w0.heap.size w0 w' := by
  have HC := Aside0.mk (impl_negated.build_any B g cap w hcap (impl_negated.cells5 H).1.2.2.2.2 c0 c1 c2 c3)
  have HH := Aside0.mk H
  have HB := Aside0.mk hb
  have hlt : B < w.heap.size := (Array.getElem?_eq_some_iff.1 H).1
  clear c0 c1 c2 c3 H hb
  go_enter Tryz.func42, Tryz.ntmps42
  go_upto_region 1 with (go_at_call 51; refine HC.out.mono ?_; rintro e w1 ⟨rfl, ht, hb1⟩; have HT := Aside0.mk ht; have HB1 := Aside0.mk hb1; obtain ⟨⟨_, _, _, k3, k4⟩, kf⟩ := impl_negated.cells5 ((hb1.block B hlt).trans HH.out); have kf3 := kf 3; have kf4 := kf 4; clear kf ht hb1)
  go_wp2_with fail
  go_end0
  have h1 := (HB1.out.block B hlt).trans HH.out
  refine ⟨rfl, w.heap.size, ?_, ?_, ((below_step HB.out HB1.out).setCell hB _).setCell hB _⟩
  · rw [heap_setCell_same _ _ _ _ _ _ (heap_setCell_same _ _ _ _ _ _ h1)]; rfl
  · rw [heap_setCell_other _ _ _ _ (show w.heap.size ≠ B by omega), heap_setCell_other _ _ _ _ (show w.heap.size ≠ B by omega)]; exact HT.out
set_option maxHeartbeats 8000000 in
set_option maxRecDepth 100000 in
theorem impl_negated.slow (w0 w : World) (B g cap : Nat) (m r : Value) (hcap : 4 ≤ cap) (hb : Below w0.heap.size w0 w) (hB : w0.heap.size ≤ B) (hgB : g ≠ B) (H : w.heap[B]? = some (.cells #[.int .u32 0, .int .i32 0, m, r, .slice (some ⟨g, 0, none⟩) 4 cap] 70 (0, 0)))
    (c0 : w.cell? ⟨g, 0, none⟩ = some (.string ⟨#[43]⟩)) (c1 : w.cell? ⟨g, 1, none⟩ = some (.string ⟨#[45]⟩)) (c2 : w.cell? ⟨g, 2, none⟩ = some (.string ⟨#[45]⟩)) (c3 : w.cell? ⟨g, 3, none⟩ = some (.string ⟨#[43]⟩)) :
    Calls Tryz.prog 50 #[.pointer (some ⟨B, 0, none⟩), .func (.func 42) #[.pointer (some ⟨B, 0, none⟩)] #[]] w fun e w' => e = .returned (.tuple #[]) ∧ ∃ h, w'.heap[B]? = some (.cells #[.int .u32 1, .int .i32 0, m, .iface 91 (.pointer (some ⟨h, 0, none⟩)), .slice none 0 0] 70 (0, 0)) ∧ w'.heap[h]? = some (.cells impl_negated.tab 90 (0, 0)) ∧ h ≠ B ∧ Below w0.heap.size w0 w' := by
  have HL := heap_setCell_same w B 1 _ _ (.int .i32 1) H
  have HL : (w.setCell ⟨B, 1, none⟩ (.int .i32 1)).heap[B]? = some (.cells #[.int .u32 0, .int .i32 1, m, r, .slice (some ⟨g, 0, none⟩) 4 cap] 70 (0, 0)) := HL
  have hl := run_call_load (P := Tryz.prog) Tryz.func57 (by kernel_rfl) (by kernel_rfl) (by kernel_rfl) .u32 (by kernel_rfl) (w := w.setCell ⟨B, 1, none⟩ (.int .i32 1)) (a := ⟨B, 0, none⟩) (x := 0) (impl_negated.cells5 HL).1.1
  have hg : ∀ j, (w.setCell ⟨B, 1, none⟩ (.int .i32 1)).cell? ⟨g, j, none⟩ = w.cell? ⟨g, j, none⟩ := fun j => World.cell?_setCell_other _ _ _ _ (by simp; try omega)
  have HF := Aside0.mk (impl_negated.once_fn w0 (w.setCell ⟨B, 1, none⟩ (.int .i32 1)) B g cap (.int .u32 0) (.int .i32 1) m r hcap (hb.setCell hB _) hB HL ((hg 0).trans c0) ((hg 1).trans c1) ((hg 2).trans c2) ((hg 3).trans c3))
  have HK := Aside0.mk (impl_negated.lock_free ⟨B, 1, none⟩ w (impl_negated.cells5 H).1.2.1 ((impl_negated.cells5 H).2 1))
  have hnot : ∀ (x : Bool) (w : World), (Op.unary .not (.bool x)).run Tryz.prog w = .ok (.bool (!x)) w := fun _ _ => rfl
  clear hg c0 c1 c2 c3 HL H hb
  generalize w.setCell ⟨B, 1, none⟩ (.int .i32 1) = w1 at hl HF HK
  go_enter_defers Tryz.func50, Tryz.ntmps50
  go_wp2_with (first | (go_at_call 58; refine HK.out.mono ?_; rintro e w' ⟨rfl, rfl⟩) | (go_at_call 49; go_in) | (go_at_call 42; refine HF.out.mono ?_; rintro e w2 ⟨rfl, h, k1, k2, k3⟩; have K1 := Aside0.mk k1; have K2 := Aside0.mk k2; have K3 := Aside0.mk k3; clear k1 k2 k3))
  refine leaves_cons (f := 60) (args := #[.pointer (some ⟨B, 0, none⟩), .bool true]) (by simp) (by simp [go_sem]) ?_
  obtain ⟨⟨e0, e1, _, _, _⟩, ef⟩ := impl_negated.cells5 K1.out
  refine (impl_negated.store_deferred ⟨B, 0, none⟩ (.int .u32 0) .returning _ e0 (ef 0)).mono ?_
  rintro e u' w'' ⟨rfl, rfl, rfl⟩
  have hS : (w2.drew.setCell ⟨B, 0, none⟩ (.int .u32 1)).heap[B]? = some (.cells #[.int .u32 1, .int .i32 1, m, .iface 91 (.pointer (some ⟨h, 0, none⟩)), .slice none 0 0] 70 (0, 0)) := heap_setCell_same w2.drew B 0 _ _ (.int .u32 1) K1.out
  obtain ⟨⟨_, g1, _, _, _⟩, gf⟩ := impl_negated.cells5 hS
  refine leaves_cons (f := 59) (args := #[.pointer (some ⟨B, 1, none⟩)]) (by simp [settle]) (by simp [go_sem]) ?_
  refine (impl_negated.unlock_deferred ⟨B, 1, none⟩ _ _ g1 (gf 1)).mono ?_
  rintro e u' w'' ⟨rfl, rfl, rfl⟩
  have hhB : h ≠ B := fun e => by
    have h1 := K1.out; have h2 := K2.out
    rw [e, h1] at h2
    injection h2 with h2
    injection h2 with _ h3
    cases h3
  have hF : ((w2.drew.setCell ⟨B, 0, none⟩ (.int .u32 1)).setCell ⟨B, 1, none⟩ (.int .i32 0)).heap[B]? = some (.cells #[.int .u32 1, .int .i32 0, m, .iface 91 (.pointer (some ⟨h, 0, none⟩)), .slice none 0 0] 70 (0, 0)) := heap_setCell_same _ B 1 _ _ (.int .i32 0) hS
  have hT : ((w2.drew.setCell ⟨B, 0, none⟩ (.int .u32 1)).setCell ⟨B, 1, none⟩ (.int .i32 0)).heap[h]? = some (.cells impl_negated.tab 90 (0, 0)) := by
    rw [heap_setCell_other _ _ _ _ (show h ≠ B from hhB), heap_setCell_other _ _ _ _ (show h ≠ B from hhB)]; exact K2.out
  have hBB : Below w0.heap.size w0 ((w2.drew.setCell ⟨B, 0, none⟩ (.int .u32 1)).setCell ⟨B, 1, none⟩ (.int .i32 0)) := ((below_drew K3.out).setCell hB _).setCell hB _
  generalize ((w2.drew.setCell ⟨B, 0, none⟩ (.int .u32 1)).setCell ⟨B, 1, none⟩ (.int .i32 0)) = w9 at hF hT hBB ⊢
  have hP := And.intro hF (And.intro hT (And.intro hhB hBB))
  clear hF hT hhB hBB hS
  simp [Leaves, settle, results, Tryz.results50]
  exact ⟨h, hP⟩
/-- A sign's byte exchanged. -/
def impl_negated.one (b : UInt8) : UInt8 := if b = 45 then 43 else if b = 43 then 45 else b
def impl_negated.all (s : ByteArray) : ByteArray := ⟨(s.data.toList.map impl_negated.one).toArray⟩
theorem impl_negated.tab_get (b : UInt8) : impl_negated.tab[b.toNat]? = some (.int .u8 ((impl_negated.one b).toNat : Int)) := by
  have hb := b.toNat_lt
  unfold impl_negated.tab impl_negated.one
  rw [Array.getElem?_setIfInBounds, Array.getElem?_setIfInBounds]
  have e43 : b = 43 ↔ 43 = b.toNat := ⟨fun h => by rw [h]; rfl, fun h => UInt8.toNat_inj.1 (by rw [← h]; rfl)⟩
  have e45 : b = 45 ↔ 45 = b.toNat := ⟨fun h => by rw [h]; rfl, fun h => UInt8.toNat_inj.1 (by rw [← h]; rfl)⟩
  by_cases h1 : 43 = b.toNat
  · rw [if_pos h1, if_pos (by rw [Array.size_setIfInBounds, impl_negated.T_size]; omega), if_neg (fun h => by have := e45.1 h; omega), if_pos (e43.2 h1)]; rfl
  · rw [if_neg h1]
    by_cases h2 : 45 = b.toNat
    · rw [if_pos h2, if_pos (by rw [impl_negated.T_size]; omega), if_pos (e45.2 h2)]; rfl
    · rw [if_neg h2, if_neg (fun h => h2 (e45.1 h)), if_neg (fun h => h1 (e43.1 h)), impl_negated.T_get 256 _ (by omega), if_pos (by omega)]
set_option maxHeartbeats 8000000 in
set_option maxRecDepth 100000 in
theorem impl_negated.do_first (w0 w : World) (B g cap : Nat) (m r : Value) (hcap : 4 ≤ cap) (hb : Below w0.heap.size w0 w) (hB : w0.heap.size ≤ B) (hgB : g ≠ B) (H : w.heap[B]? = some (.cells #[.int .u32 0, .int .i32 0, m, r, .slice (some ⟨g, 0, none⟩) 4 cap] 70 (0, 0)))
    (c0 : w.cell? ⟨g, 0, none⟩ = some (.string ⟨#[43]⟩)) (c1 : w.cell? ⟨g, 1, none⟩ = some (.string ⟨#[45]⟩)) (c2 : w.cell? ⟨g, 2, none⟩ = some (.string ⟨#[45]⟩)) (c3 : w.cell? ⟨g, 3, none⟩ = some (.string ⟨#[43]⟩)) :
    Calls Tryz.prog 41 #[.pointer (some ⟨B, 0, none⟩), .func (.func 42) #[.pointer (some ⟨B, 0, none⟩)] #[]] w fun e w' => e = .returned (.tuple #[]) ∧ ∃ h, w'.heap[B]? = some (.cells #[.int .u32 1, .int .i32 0, m, .iface 91 (.pointer (some ⟨h, 0, none⟩)), .slice none 0 0] 70 (0, 0)) ∧ w'.heap[h]? = some (.cells impl_negated.tab 90 (0, 0)) ∧ h ≠ B ∧ Below w0.heap.size w0 w' := by
  have hl := run_call_load (P := Tryz.prog) Tryz.func57 (by kernel_rfl) (by kernel_rfl) (by kernel_rfl) .u32 (by kernel_rfl) (impl_negated.cells5 H).1.1
  have hnot : ∀ (x : Bool) (w : World), (Op.unary .not (.bool x)).run Tryz.prog w = .ok (.bool (!x)) w := fun _ _ => rfl
  have HS := Aside0.mk (impl_negated.slow w0 w B g cap m r hcap hb hB hgB H c0 c1 c2 c3)
  clear c0 c1 c2 c3 H hb
  go_enter Tryz.func41, Tryz.ntmps41
  go_wp2_with (first | (go_at_call 50; refine HS.out.mono ?_; rintro e w' ⟨rfl, HP⟩) | (go_at_call 49; go_in))
  go_end0
  exact ⟨rfl, HP⟩
def impl_negated.at_ (s : ByteArray) (j : Nat) : UInt8 := s.data.toList.getD j 0
theorem impl_negated.at_get (s : ByteArray) (j : Nat) (h : j < s.size) : s[j] = impl_negated.at_ s j := by
  have h' : j < s.data.toList.length := by rw [data_length]; exact h
  simp [impl_negated.at_, List.getD_eq_getElem?_getD, List.getElem?_eq_getElem h']
  rfl
/-- The buffer's state when k bytes are done. -/
def impl_negated.St (w : World) (s : ByteArray) (W : World) (v : Value) (k : Nat) : Prop := Below w.heap.size w W ∧
  ((v = .slice none 0 0 ∧ ∀ j, j < k → impl_negated.one (impl_negated.at_ s j) = impl_negated.at_ s j) ∨ ∃ g cap, w.heap.size ≤ g ∧ v = .slice (some ⟨g, 0, none⟩) s.size cap ∧ ∀ j, j < s.size → W.cell? ⟨g, j, none⟩ = some (.int .u8 ((if j < k then impl_negated.one (impl_negated.at_ s j) else impl_negated.at_ s j).toNat : Int)) ∧ W.frozen? ⟨g, j, none⟩ = false)
theorem impl_negated.St.same {w W : World} {s : ByteArray} {v : Value} {k : Nat} (h : impl_negated.St w s W v k) (e : impl_negated.one (impl_negated.at_ s k) = impl_negated.at_ s k) : impl_negated.St w s W v (k + 1) := by
  obtain ⟨hb, h | ⟨g, cap, hg, hv, hc⟩⟩ := h
  · refine ⟨hb, .inl ⟨h.1, fun j hj => ?_⟩⟩
    by_cases e2 : j = k
    · rw [e2]; exact e
    · exact h.2 j (by omega)
  · refine ⟨hb, .inr ⟨g, cap, hg, hv, fun j hj => ⟨?_, (hc j hj).2⟩⟩⟩
    rw [(hc j hj).1]
    by_cases e2 : j = k
    · subst e2; rw [if_neg (by omega), if_pos (by omega), e]
    · by_cases e3 : j < k
      · rw [if_pos e3, if_pos (by omega)]
      · rw [if_neg e3, if_neg (by omega)]
theorem impl_negated.St.set {w W : World} {s : ByteArray} {g cap k : Nat} (hk : k < s.size) (hb : Below w.heap.size w W) (hg : w.heap.size ≤ g) (hc : ∀ j, j < s.size → W.cell? ⟨g, j, none⟩ = some (.int .u8 ((if j < k then impl_negated.one (impl_negated.at_ s j) else impl_negated.at_ s j).toNat : Int)) ∧ W.frozen? ⟨g, j, none⟩ = false) :
    impl_negated.St w s (W.setCell ⟨g, k, none⟩ (.int .u8 ((impl_negated.one (impl_negated.at_ s k)).toNat : Int))) (.slice (some ⟨g, 0, none⟩) s.size cap) (k + 1) := by
  refine ⟨hb.setCell hg _, .inr ⟨g, cap, hg, rfl, fun j hj => ⟨?_, ?_⟩⟩⟩
  · by_cases e : j = k
    · subst e
      rw [World.cell?_setCell_same _ _ _ (hc j hj).1, if_pos (by omega)]
    · rw [World.cell?_setCell_other _ ⟨g, k, none⟩ ⟨g, j, none⟩ _ (by simp; try omega), (hc j hj).1]
      by_cases e3 : j < k
      · rw [if_pos e3, if_pos (by omega)]
      · rw [if_neg e3, if_neg (by omega)]
  · rw [World.frozen?_setCell]; exact (hc j hj).2
set_option maxHeartbeats 8000000 in
set_option maxRecDepth 100000 in
theorem impl_negated.rep (h : Nat) (s : ByteArray) (hs : s.size ≤ 140737488351232) (w : World) (hT : w.heap[h]? = some (.cells impl_negated.tab 90 (0, 0))) :
    Calls Tryz.prog 127 #[.pointer (some ⟨h, 0, none⟩), .string s] w fun e w' => e = .returned (.string (impl_negated.all s)) ∧ Below w.heap.size w w' := by
  have HT := Aside0.mk hT
  clear hT
  have HS : Aside0 (impl_negated.St w s w (.slice none 0 0) 0) := ⟨Below.refl _ _, .inl ⟨rfl, fun j hj => by omega⟩⟩
  have kb := fun W => print_bytes (P := Tryz.prog) 9 92 5 Tryz.underlying9 Tryz.underlying92 Tryz.underlying5 s W
  have qE : ∀ (w : World) (a : Option Addr) (n c : Nat), (binOp .eql 92 (.slice a n c) (.slice none 0 0)).run Tryz.prog w = .ok (.bool a.isNone) w := fun w a n c => Go.Lib.run_eql_slice_nil w _ _ a n c 0 0 Tryz.underlying92
  go_enter Tryz.func127, Tryz.ntmps127
  go_wp2_with fail
  go_loopg [5, 6] s.size (fun gg v5 v6 W => ∃ k : Nat, v6 = .int .i64 (k : Int) ∧ s.size - k ≤ gg ∧ Aside0 (k ≤ s.size) ∧ Aside0 (impl_negated.St w s W v5 k))
  case atStart => exact ⟨0, rfl, by omega, ⟨Nat.zero_le _⟩, HS⟩
  case round =>
    clear HS
    obtain ⟨k, rfl, hg, HK, HS⟩ := hrel
    by_cases hk : k < s.size
    · have hx := impl_negated.at_get s k hk
      have htc := cell_of_row wr h (impl_negated.at_ s k).toNat _ _ _ ((HS.out.1.block h (Array.getElem?_eq_some_iff.1 HT.out).1).trans HT.out)
      rw [impl_negated.tab_get] at htc
      have hlt := (impl_negated.at_ s k).toNat_lt
      have hlt2 : ((impl_negated.at_ s k).toNat : Int) < 256 := by omega
      have hkb : (0 : Int) ≤ k ∧ (k : Int) < (s.size : Int) := by omega
      by_cases he : impl_negated.one (impl_negated.at_ s k) = impl_negated.at_ s k
      · have HN := Aside0.mk (HS.out.same he)
        rw [he] at htc
        have hne : (((impl_negated.at_ s k).toNat : Int) != ((impl_negated.at_ s k).toNat : Int)) = false := by simp
        generalize impl_negated.at_ s k = c at hx htc hlt hlt2 hne
        go_wp2_with fail
        go_roundg (s.size - (k + 1))
        case measure => omega
        case rel => exact ⟨k + 1, by go_num, by omega, ⟨by omega⟩, HN⟩
      · have hne : (((impl_negated.one (impl_negated.at_ s k)).toNat : Int) != ((impl_negated.at_ s k).toNat : Int)) = true := by
          have : ¬ (impl_negated.one (impl_negated.at_ s k)).toNat = (impl_negated.at_ s k).toNat := fun h => he (UInt8.toNat_inj.1 h)
          simp; omega
        obtain ⟨hb, ⟨hv, hall⟩ | ⟨g, cap, hg2, hv, hc⟩⟩ := HS.out
        · subst hv
          have hN := impl_negated.St.set (w := w) (W := Lib.bytesWorld wr 5 s) (s := s) (g := wr.heap.size) (cap := grownCap wr s.size 0 5) hk (bytes_below hb hb.size 5 s) hb.size (fun j hj => ⟨by
              rw [Lib.bytesWorld_cell wr 5 s j hj]
              by_cases hjk : j < k
              · rw [if_pos hjk, hall j hjk]; rfl
              · rw [if_neg hjk]; rfl, by
              have hn := Lib.bytesWorld_at_new wr 5 s
              have : s.size ≤ (Lib.bytesCells wr 5 s).size := by simp [Lib.bytesCells]
              simp only [World.frozen?, hn]
              simp; omega⟩)
          have hc2 := Lib.bytesWorld_cell wr 5 s k hk
          have hf2 : (Lib.bytesWorld wr 5 s).frozen? ⟨wr.heap.size, k, none⟩ = false := by
              have hn := Lib.bytesWorld_at_new wr 5 s
              have : s.size ≤ (Lib.bytesCells wr 5 s).size := by simp [Lib.bytesCells]
              simp only [World.frozen?, hn]
              simp; omega
          have htc2 := (Lib.bytesWorld_old wr 5 s ⟨h, (impl_negated.at_ s k).toNat, none⟩ (World.block_lt_of_cell? wr _ htc)).trans htc
          have HN := Aside0.mk hN
          have kb1 := kb wr
          clear hN HS hall he hb kb
          generalize Lib.bytesWorld wr 5 s = w2 at kb1 HN hc2 hf2 htc2
          generalize grownCap wr s.size 0 5 = cap at kb1 HN
          generalize impl_negated.one (impl_negated.at_ s k) = d at HN htc hne htc2
          have hc3 : w2.cell? ⟨wr.heap.size, k, none⟩ = some (.int .u8 ((impl_negated.at_ s k).toNat : Int)) := hc2
          clear hc2
          generalize impl_negated.at_ s k = c at hx htc hlt hlt2 hne htc2 hc3
          go_wp2_with fail
          go_roundg (s.size - (k + 1))
          case measure => omega
          case rel => exact ⟨k + 1, by go_num, by omega, ⟨by omega⟩, HN⟩
        · subst hv
          have HN := Aside0.mk (impl_negated.St.set (cap := cap) hk hb hg2 hc)
          obtain ⟨hc2, hf2⟩ := hc k hk
          clear HS hc he hb
          generalize impl_negated.one (impl_negated.at_ s k) = d at HN htc hne
          generalize impl_negated.at_ s k = c at hx htc hlt hlt2 hne hc2
          go_wp2_with fail
          go_roundg (s.size - (k + 1))
          case measure => omega
          case rel => exact ⟨k + 1, by go_num, by omega, ⟨by omega⟩, HN⟩
    · obtain rfl : k = s.size := by have := HK.out; omega
      have hkb : ¬ (s.size : Int) < (s.size : Int) := by omega
      obtain ⟨hb, ⟨hv, hall⟩ | ⟨g, cap, hg2, hv, hc⟩⟩ := HS.out
      · subst hv
        have hA : impl_negated.all s = s := by
          unfold impl_negated.all
          have : s.data.toList.map impl_negated.one = s.data.toList := by
            apply List.ext_getElem
            · simp
            · intro i h1 h2
              rw [List.getElem_map]
              have := hall i (by rw [← data_length]; exact h2)
              unfold impl_negated.at_ at this
              rw [List.getD_eq_getElem?_getD, List.getElem?_eq_getElem h2] at this
              exact this
          rw [this]
        have HA := Aside0.mk hA
        have HB := Aside0.mk hb
        clear hA hb hall HS
        go_wp2_with fail
        go_ret
        exact ⟨by rw [HA.out]; rfl, HB.out⟩
      · subst hv
        have hcv := run_convert_bytes_arg (P := Tryz.prog) wr 92 5 Tryz.underlying92 Tryz.underlying5 g 0 s.size cap ((s.data.toList.map impl_negated.one).map fun b => (b.toNat : Int)) (by rw [List.length_map, List.length_map, data_length]) (fun i hi => by
          rw [Nat.zero_add, (hc i hi).1, if_pos hi]
          have h' : i < s.data.toList.length := by rw [data_length]; exact hi
          simp [impl_negated.at_, List.getD_eq_getElem?_getD, List.getElem?_eq_getElem h']) 9 Tryz.underlying9
        have hA : strOfNums ((s.data.toList.map impl_negated.one).map fun b => (b.toNat : Int)) = impl_negated.all s := by
          unfold impl_negated.all strOfNums
          rw [List.map_map]
          congr 2
          rw [List.map_map]
          apply List.map_congr_left
          intro b _
          simp
        rw [hA] at hcv
        have HB := Aside0.mk hb
        clear hA hb hc HS
        go_wp2_with fail
        go_ret
        exact ⟨rfl, HB.out⟩
theorem impl_negated.method (a : Addr) (w : World) : (method 278 91 (.pointer (some a)) "Replace").run Tryz.prog w = .ok (127, .pointer (some a)) w := by kernel_rfl
set_option maxHeartbeats 8000000 in
set_option maxRecDepth 100000 in
theorem impl_negated.replace (w0 w : World) (B g cap : Nat) (s : ByteArray) (hs : s.size ≤ 140737488351232) (m r : Value) (hcap : 4 ≤ cap) (hb : Below w0.heap.size w0 w) (hB : w0.heap.size ≤ B) (hgB : g ≠ B) (H : w.heap[B]? = some (.cells #[.int .u32 0, .int .i32 0, m, r, .slice (some ⟨g, 0, none⟩) 4 cap] 70 (0, 0)))
    (c0 : w.cell? ⟨g, 0, none⟩ = some (.string ⟨#[43]⟩)) (c1 : w.cell? ⟨g, 1, none⟩ = some (.string ⟨#[45]⟩)) (c2 : w.cell? ⟨g, 2, none⟩ = some (.string ⟨#[45]⟩)) (c3 : w.cell? ⟨g, 3, none⟩ = some (.string ⟨#[43]⟩)) :
    Calls Tryz.prog 30 #[.pointer (some ⟨B, 0, none⟩), .string s] w fun e w' => e = .returned (.string (impl_negated.all s)) ∧ Below w0.heap.size w0 w' := by
  have hmf : ∀ (fn : Fn) (first cap : Array Value) (w : World), (Instr.makeFunc fn first cap).run Tryz.prog w = .ok (.func fn first cap) w := fun _ _ _ _ => rfl
  have HD := Aside0.mk (impl_negated.do_first w0 w B g cap m r hcap hb hB hgB H c0 c1 c2 c3)
  have HR := Aside0.mk (fun h w1 => impl_negated.rep h s hs w1)
  have hm := impl_negated.method
  clear c0 c1 c2 c3 H hb
  go_enter Tryz.func30, Tryz.ntmps30
  go_wp2_with (first | (go_at_call 41; refine HD.out.mono ?_; rintro e w1 ⟨rfl, h, k1, k2, k3, k4⟩; have K2 := Aside0.mk k2; have K4 := Aside0.mk k4; have z3 := (impl_negated.cells5 k1).1.2.2.2.1; clear k1 k2 k3 k4) | (go_at_call 127; refine (HR.out _ _ K2.out).mono ?_; rintro e w2 ⟨rfl, hb2⟩; have HB2 := Aside0.mk (below_step K4.out hb2); clear hb2))
  go_ret
  exact ⟨rfl, HB2.out⟩
theorem impl_negated.info9 : (Tryz.prog.info? 9).map (fun i => (i.zero, i.size, i.bytes)) = some (some (.string ⟨#[]⟩), 1, 16) := by kernel_rfl
def impl_negated.four : List ByteArray := [⟨#[43]⟩, ⟨#[45]⟩, ⟨#[45]⟩, ⟨#[43]⟩]
/-- A replacer, not yet built. -/
def impl_negated.Made (w w' : World) (e : Ending) : Prop := ∃ B g cap, e = .returned (.pointer (some ⟨B, 0, none⟩)) ∧ w'.heap[B]? = some (.cells #[.int .u32 0, .int .i32 0, .int .u32 0, .nilIface, .slice (some ⟨g, 0, none⟩) 4 cap] 70 (0, 0)) ∧ 4 ≤ cap ∧ w.heap.size ≤ B ∧ g ≠ B ∧
      (w'.cell? ⟨g, 0, none⟩ = some (.string ⟨#[43]⟩) ∧ w'.cell? ⟨g, 1, none⟩ = some (.string ⟨#[45]⟩) ∧ w'.cell? ⟨g, 2, none⟩ = some (.string ⟨#[45]⟩) ∧ w'.cell? ⟨g, 3, none⟩ = some (.string ⟨#[43]⟩)) ∧ Below w.heap.size w w'
theorem impl_negated.fours {W : World} {g c n : Nat} (h : Kd.C Kd.string W (some ⟨g, 0, none⟩) n impl_negated.four) : W.cell? ⟨g, 0, none⟩ = some (.string ⟨#[43]⟩) ∧ W.cell? ⟨g, 1, none⟩ = some (.string ⟨#[45]⟩) ∧ W.cell? ⟨g, 2, none⟩ = some (.string ⟨#[45]⟩) ∧ W.cell? ⟨g, 3, none⟩ = some (.string ⟨#[43]⟩) := by
  have k : ∀ i : Nat, i < 4 → W.cell? ⟨g, i, none⟩ = some (.string (impl_negated.four.getD i ⟨#[]⟩)) := fun i hi => by
    have hn : n = 4 := h.1.symm
    subst hn
    obtain ⟨ad, e, hc⟩ := Kd.at_string h (i : Int) (by omega) (by omega)
    injection e with e
    subst e
    rw [Int.toNat_natCast, add_plain] at hc
    exact hc
  exact ⟨k 0 (by omega), k 1 (by omega), k 2 (by omega), k 3 (by omega)⟩
set_option maxHeartbeats 8000000 in
set_option maxRecDepth 100000 in
theorem impl_negated.new (A : Option Addr) (c : Nat) (w : World) (hA : Kd.C Kd.string w A 4 impl_negated.four) :
    Calls Tryz.prog 29 #[.slice A 4 c] w fun e w' => impl_negated.Made w w' e := by
  have HA := Aside0.mk hA
  clear hA
  go_enter Tryz.func29, Tryz.ntmps29
  go_wp2_with ((with_reducible refine gate_builtin (b := .append) (xs := #[.const (.slice none 0 0), .tmp 8]) rfl ?_); at_builtin; refine Kd.R_append_rows Kd.string (w0 := w) w.heap.size rfl (.const (.slice none 0 0)) (.tmp 8) 54 9 (.string ⟨#[]⟩) 16 rfl Tryz.underlying54 impl_negated.info9 rfl (by decide) (by omega) (.slice none 0 0) [] impl_negated.four _ _ _ (fun _ => True) (fun _ => False) rfl rfl ?aO ?aR (fun _ _ h => h) (fun _ h => h.elim) ?aF ?aB ?aS ?aL ?_; (case aR => exact HA.out); (case aB => exact Below.refl _ _); (case aF => exact (fun _ _ => trivial)); (case aO => exact Kd.R_nil _ _ _ _ _); (case aS => exact Nat.le_refl _); (case aL => simp [impl_negated.four]); intro v446 w5 ho hb hg hat; obtain ⟨g, cap, hv, hgb, hgl, _⟩ := Kd.R_form ho (by simp [impl_negated.four]); have hv : v446 = .slice (some ⟨g, 0, none⟩) 4 cap := hv; subst hv; have ho : Kd.R Kd.string 9 w5 w.heap.size (fun _ => True) (.slice (some ⟨g, 0, none⟩) 4 cap) impl_negated.four := ho; have HO := Aside0.mk ho; have HB := Aside0.mk hb; clear ho hb hg hat)
  go_ret
  have hr := Kd.R_reads' HO.out
  obtain ⟨k0, k1, k2, k3⟩ := impl_negated.fours (c := cap) hr.2.2
  have kk : ∀ (j : Nat) (v : Value), w5.cell? ⟨g, j, none⟩ = some v → (w5.alloc (.cells #[.int .u32 0, .int .i32 0, .int .u32 0, .nilIface, .slice (some ⟨g, 0, none⟩) 4 cap] 70)).cell? ⟨g, j, none⟩ = some v := fun j v hv => ((below_alloc (Below.refl w5.heap.size w5) _).cell (World.block_lt_of_cell? _ _ hv)).trans hv
  exact ⟨w5.heap.size, g, cap, rfl, heap_alloc_new _ _, hr.2.1, HB.out.size, by omega, ⟨kk _ _ k0, kk _ _ k1, kk _ _ k2, kk _ _ k3⟩, below_alloc HB.out _⟩
set_option maxHeartbeats 8000000 in
set_option maxRecDepth 100000 in
theorem impl_negated.lit (w : World) : Kd.C Kd.string (w.alloc (.cells #[.string ⟨#[43]⟩, .string ⟨#[45]⟩, .string ⟨#[45]⟩, .string ⟨#[43]⟩] 9)) (some ⟨w.heap.size, 0, none⟩) 4 impl_negated.four := by
  refine Kd.C_of_reads (d := ByteArray.empty) ⟨rfl, by decide, fun _ => ⟨_, rfl, fun j hj => ?_⟩⟩
  rw [add_plain, cell_of_row _ _ _ _ _ _ (heap_alloc_new w _)]
  obtain rfl | rfl | rfl | rfl : j = 0 ∨ j = 1 ∨ j = 2 ∨ j = 3 := by omega
  all_goals rfl
def impl_negated.f (a0 : ByteArray) : Option ByteArray := if a0.size ≤ 140737488351232 then some (impl_negated.all a0) else none
set_option maxHeartbeats 8000000 in
set_option maxRecDepth 100000 in
theorem impl_negated.calls (a0 : ByteArray) (r : ByteArray) (w : World) (h : impl_negated.f a0 = some r) :
    Calls Tryz.prog 17 #[.string a0] w fun e w' => e = .returned (.string r) ∧ Below w.heap.size w w' := by
  have hs : a0.size ≤ 140737488351232 := by
    apply Classical.byContradiction; intro hn; unfold impl_negated.f at h; rw [if_neg hn] at h; cases h
  obtain rfl : impl_negated.all a0 = r := by unfold impl_negated.f at h; rw [if_pos hs] at h; exact Option.some.inj h
  have HN := Aside0.mk (impl_negated.new (some ⟨w.heap.size, 0, none⟩) 4 _ (impl_negated.lit w))
  have HL := Aside0.mk (below_alloc (Below.refl w.heap.size w) (.cells #[.string ⟨#[43]⟩, .string ⟨#[45]⟩, .string ⟨#[45]⟩, .string ⟨#[43]⟩] 9))
  have HP := Aside0.mk (fun (W : World) (B g cap : Nat) => impl_negated.replace w W B g cap a0 hs)
  clear h
  go_enter Tryz.func17, Tryz.ntmps17
  go_wp2_with (first | (go_at_call 29; refine HN.out.mono ?_; rintro e w1 ⟨B, g, cap, rfl, hB, hcap, hBb, hgB, ⟨k0, k1, k2, k3⟩, hb⟩; have HQ := Aside0.mk (HP.out w1 B g cap (.int .u32 0) .nilIface hcap (below_step HL.out hb) (Nat.le_trans HL.out.size hBb) hgB hB k0 k1 k2 k3); clear hB hcap hBb hgB k0 k1 k2 k3 hb) | (go_at_call 30; refine HQ.out.mono ?_; rintro e w2 ⟨rfl, hb⟩))
  go_ret
  exact ⟨rfl, hb⟩

end Go.Proofs.YtgcpjjifiebijaaGreatDoor.G
