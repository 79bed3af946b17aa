/- Functions of the program and of the reference as Lean functions, and the contracts of their calls: laid by a program of this repo (wip/gen.py), in part by hand. -/
import Derived.Test.YtlkgojgmgdeieaaGx0
import Derived.Test.YtlkgojgmgdeieaaGx4
import Derived.Test.YtlkgojgmgdeieaaGx6
namespace Go.Proofs.Ytlkgojgmgdeieaa.G
open Go.RowKit Go.Proofs.YtlkgojgmgdeieaaW.PrintWords Go.Proofs.YtlkgojgmgdeieaaW.PrintLast Go.Proofs.YtlkgojgmgdeieaaW.PrintMore
attribute [local go_sem] max2_int min2_int max_two min_two max_three min_three max_four min_four   -- for this text's walks alone
set_option linter.unusedVariables false
set_option linter.unusedSimpArgs false

attribute [local go_sem] Oper.semAt_some
/-- A row of whole numbers that the call owns, as the print tells one. -/
theorem R_of_nums {W : World} {base : Nat} {v : Value} {xs : List Int} (h : W.ownsRow base 3 1 v xs.length (nums .i64 xs)) : Kd.R (Kd.int .i64) 3 W base (fun _ => True) v xs := by
  refine ⟨fun _ _ => trivial, nums .i64 xs, h, (by show (nums .i64 xs).length = xs.length * 1; simp [nums]), fun j p hj => ?_⟩
  obtain ⟨hl, rfl⟩ := List.getElem?_eq_some_iff.1 hj
  show ((nums .i64 xs).drop (j * 1)).take 1 = [Value.int .i64 xs[j]]
  rw [Nat.mul_one, List.drop_eq_getElem_cons (by simpa [nums] using hl)]
  simp [nums]
/-! ### slices.Backward: functions 53, 78 -/
/-- What a round keeps: all below n₀, and the box of the slice. -/
def KeptB (n₀ Bs : Nat) (W W' : World) : Prop := Below n₀ W W' ∧ W'.heap[Bs]? = W.heap[Bs]?
theorem KeptB.refl (n₀ Bs : Nat) (W : World) : KeptB n₀ Bs W W := ⟨Below.refl _ _, rfl⟩
theorem KeptB.trans {n₀ Bs : Nat} {A B C : World} (h : KeptB n₀ Bs A B) (k : KeptB n₀ Bs B C) : KeptB n₀ Bs A C := ⟨h.1.trans k.1, k.2.trans h.2⟩
theorem KeptB.box {n₀ Bs : Nat} {A B : World} (h : KeptB n₀ Bs A B) (o : Nat) : B.cell? ⟨Bs, o, none⟩ = A.cell? ⟨Bs, o, none⟩ := World.cell?_of_block h.2
theorem KeptB.put {n₀ Bs : Nat} {w : World} (hn : n₀ ≤ w.heap.size) (hb : Bs < w.heap.size) (W : World) (l : Nat) (o o' : Obj) (hl : w.heap.size ≤ l) (h : W.heap[l]? = some o) (hc : o.isCells = false) (hw : o.isWalk = false) : KeptB n₀ Bs W (W.putObj l o') :=
  ⟨belowK_b hn W l o o' hl h hc hw, (grownBy_putObj' W l o').block Bs (by have := (Array.getElem?_eq_some_iff.1 h).1; omega) (fun e => by cases e; omega)⟩
set_option maxRecDepth 100000 in
set_option maxHeartbeats 4000000 in
theorem backward1 (F : Fence) (n : Nat) (h8 : F.fn 78) (hro : F.round = none) (hn : 1 ≤ n) (l Bs n₀ : Nat) (A0 : Option Addr) (c0 : Nat) (l0 : List Int) (hreach : l0.length ≤ 35184372088832)
    (J Jx : List (Fin l0.length) → World → Prop)
    (hY : ∀ pre (x : Fin l0.length) W, J pre W → pre.length < l0.length → YieldAt F (n - 1) Try.prog l #[.int .i64 (x.1 : Int), .int .i64 (rd l0 (x.1 : Int))] W fun e W' =>
      (e = .returned (.bool true) ∧ J (pre ++ [x]) W' ∧ KeptB n₀ Bs W W') ∨ (e = .returned (.bool false) ∧ Jx (pre ++ [x]) W'))
    (W : World) (hlt : ∀ ad, A0 = some ad → 0 < l0.length → ad.block < n₀) (hBs : W.cell? ⟨Bs, 0, none⟩ = some (.slice A0 l0.length c0)) (hc : Kd.C (Kd.int .i64) W A0 l0.length l0) (h0 : J [] W) :
    CallsIn F n Try.prog 78 #[.func (.yield l) #[] #[], .pointer (some ⟨Bs, 0, none⟩)] W fun e W' => (∃ v, e = .returned v) ∧
      ((∃ ys : List (Fin l0.length), ys.map (fun x => x.1) = (List.range l0.length).reverse ∧ J ys W') ∨ (∃ pre : List (Fin l0.length), Jx pre W')) := by
  have HC := Aside0.mk hc
  have HL := Aside0.mk hlt
  clear hc hlt
  refine callsIn_of_wp Try.func78 rfl h8 ?_ hro
  simp only [Try.ntmps78, List.size_toArray, List.length_cons, List.length_nil, Nat.reduceAdd, Nat.reduceSub, Array.replicate_succ, Array.replicate_zero, List.push_toArray, List.append_toArray, List.nil_append, List.cons_append]
  gi_wp2
  gi_loopw [3] (fun i wr => ∃ (j : Nat) (pre : List (Fin l0.length)), j ≤ l0.length ∧ i = .int .i64 ((j : Int) - 1) ∧ pre.map (fun x => x.1) = ((List.range l0.length).drop j).reverse ∧ J pre wr ∧ KeptB n₀ Bs W wr)
    (fun i _ => ((intOf i) + 1).toNat)
  case atStart => exact ⟨l0.length, [], Nat.le_refl _, rfl, by simp, h0, KeptB.refl _ _ _⟩
  case round =>
    obtain ⟨j, pre, hj, rfl, hpre, hJs, hnx⟩ := hrel
    have hbs' : wr.cell? ⟨Bs, 0, none⟩ = some (.slice A0 l0.length c0) := (hnx.box 0).trans hBs
    clear hBs
    cases j with
    | zero =>
      gi_wp2
      go_end0
      exact ⟨⟨_, rfl⟩, .inl ⟨pre, by simpa using hpre, hJs⟩⟩
    | succ m =>
      have hm : m < l0.length := by omega
      have hpl : pre.length < l0.length := by
        have := congrArg List.length hpre
        simp at this; omega
      have e1 : (((m + 1 : Nat) : Int) - 1) = (m : Int) := by omega
      rw [e1]
      obtain ⟨ad, ead, hcell⟩ := Kd.at_int HC.out (m : Int) (by omega) (by omega)
      cases ead
      have hbl : ad.block < n₀ := HL.out ad rfl (by omega)
      rw [Int.toNat_natCast] at hcell
      have hcell' : wr.cell? (ad.add m) = some (.int .i64 (rd l0 (m : Int))) := (hnx.1.cell (p := ad.add m) (by rw [add_block]; exact hbl)).trans hcell
      clear hcell
      have hmz : (m : Int) < (l0.length : Int) := by omega
      obtain ⟨fn, tmps, assign, body, hy, hR⟩ := hY pre ⟨m, hm⟩ wr hJs hpl
      dsimp only at hy
      have hpre' : Aside0 ((pre ++ [(⟨m, hm⟩ : Fin l0.length)]).map (fun x => x.1) = ((List.range l0.length).drop m).reverse) := ⟨by
        rw [List.map_append, hpre, show (List.range l0.length).drop m = m :: (List.range l0.length).drop (m + 1) by rw [List.drop_eq_getElem_cons (by simpa using hm)]; simp]
        simp⟩
      clear hpre
      gi_wp2
      refine hR.mono ?_
      rintro e W3 (⟨rfl, hJ3, hk3⟩ | ⟨rfl, hJx3⟩)
      · gi_wp2
        go_roundw
        case rel => exact ⟨m, pre ++ [⟨m, hm⟩], by omega, rfl, hpre'.out, hJ3, hnx.trans hk3⟩
        case measure => simp [intOf]
      · gi_wp2
        refine bodyPost_ret (results_none rfl _ _ _) rfl ?_
        exact ⟨⟨_, rfl⟩, .inr ⟨_, hJx3⟩⟩
theorem backward_in (F : Fence) (n : Nat) (h6 : F.fn 53) (hro : F.round = none) (a : Option Addr) (len cap : Nat) (w : World) :
    CallsIn F n Try.prog 53 #[.slice a len cap] w fun e w' => e = .returned (.func (.func 78) #[] #[.pointer (some ⟨w.heap.size, 0, none⟩)]) ∧ w' = w.alloc (.cells #[.slice a len cap] 22) := by
  refine callsIn_of_wp Try.func53 rfl h6 ?_ hro
  simp only [Try.ntmps53, List.size_toArray, List.length_cons, List.length_nil, Nat.reduceAdd, Nat.reduceSub, Array.replicate_succ, Array.replicate_zero, List.push_toArray, List.append_toArray, List.nil_append, List.cons_append]
  gi_wp2
  go_ret
  exact ⟨rfl, rfl⟩
theorem backward_stops (F : Fence) (n : Nat) (h8 : F.fn 78) (hro : F.round = none) (hn : 1 ≤ n) (Bs n₀ : Nat) (A0 : Option Addr) (c0 : Nat) (l0 : List Int) (hreach : l0.length ≤ 35184372088832) (w : World) (hBs : Bs < w.heap.size) (hn₀ : n₀ ≤ w.heap.size)
    (hlt : ∀ ad, A0 = some ad → 0 < l0.length → ad.block < n₀) (hc : w.cell? ⟨Bs, 0, none⟩ = some (.slice A0 l0.length c0)) (hI : Kd.C (Kd.int .i64) w A0 l0.length l0) :
    SeqStopsK F n Try.prog 78 #[.pointer (some ⟨Bs, 0, none⟩)] (fun x : Fin l0.length => #[Value.int .i64 (x.1 : Int), Value.int .i64 (rd l0 (x.1 : Int))]) (KeptB n₀ Bs)
      (fun ys => ys.map (fun x => x.1) = (List.range l0.length).reverse) (fun _ => True) l0.length w := fun l J Jx W hW _ _ hY h0 => by
  have hc' := (hW.cell (p := ⟨Bs, 0, none⟩) hBs).trans hc
  refine (backward1 F n h8 hro hn l Bs n₀ A0 c0 l0 hreach J Jx hY W hlt hc' (Kd.C_below hI hW) h0).mono ?_
  rintro e W' ⟨he, ⟨ys, hy, hj⟩ | ⟨pre, hj⟩⟩
  · exact ⟨he, .inl ⟨_, hy, hj⟩⟩
  · exact ⟨he, .inr ⟨_, trivial, hj⟩⟩
/-! ### impl_MirrorRuler: function 22 -/
theorem impl_MirrorRuler.gdrew (w : World) (n : Nat) (row : Option Nat) : w.grownBy (w.drewN n) row := ⟨rfl, rfl, rfl, Nat.le_refl _, fun _ _ _ => rfl⟩
def impl_MirrorRuler.last (l0 : List Int) : Int := rd l0 ((l0.length : Int) - 1)
def impl_MirrorRuler.row {n : Nat} (l0 : List Int) (pre : List (Fin n)) : List Int := pre.map (fun x => wrap64 (impl_MirrorRuler.last l0 - rd l0 (x.1 : Int)))
def impl_MirrorRuler.f (k : Nat) (l0 : List Int) : Option (List Int × Bool) := (impl_IsRuler.f k l0).bind fun t => if t = true then (if 0 < l0.length ∧ l0.length ≤ 1000000 then some (l0.reverse.map (fun m => wrap64 (impl_MirrorRuler.last l0 - m)), true) else none) else some ([], false)
theorem impl_MirrorRuler.mono : ∀ a0 k, LeO (impl_MirrorRuler.f k a0) (impl_MirrorRuler.f (k + 1) a0) := by
  intro l0 k
  unfold impl_MirrorRuler.f
  intro r h
  obtain ⟨t, h1, h2⟩ := Option.bind_eq_some_iff.mp h
  exact Option.bind_eq_some_iff.mpr ⟨t, impl_IsRuler.mono _ _ _ h1, h2⟩
theorem impl_MirrorRuler.row_eq (l0 : List Int) (ys : List (Fin l0.length)) (h : ys.map (fun x => x.1) = (List.range l0.length).reverse) : impl_MirrorRuler.row l0 ys = l0.reverse.map (fun m => wrap64 (impl_MirrorRuler.last l0 - m)) := by
  have e : impl_MirrorRuler.row l0 ys = (ys.map (fun x => x.1)).map (fun (i : Nat) => wrap64 (impl_MirrorRuler.last l0 - rd l0 (i : Int))) := by simp [impl_MirrorRuler.row]
  rw [e, h, List.map_reverse, List.map_reverse]
  congr 1
  apply List.ext_getElem
  · simp
  · intro i h1 h2
    have hi : i < l0.length := by simpa using h2
    simp [rd, hi]
theorem impl_MirrorRuler.after {n : Nat} {l0 : List Int} {w W w1 : World} {s m : Nat} {u v v' : Value} {y : Int} {pre : List (Fin n)} {x : Fin n} (hs : w.heap.size = s)
    (hv : Boxed W (s + 1 + 1) 22 v) (hrow : W.ownsRow s 3 1 v (impl_MirrorRuler.row l0 pre).length (nums .i64 (impl_MirrorRuler.row l0 pre))) (hM : Boxed W s 22 u) (hI : Boxed W (s + 1 + 1 + 1) 22 u) (hB : Below s w W)
    (hown' : w1.ownsRow s 3 1 v' ((impl_MirrorRuler.row l0 pre).length + 1) (nums .i64 (impl_MirrorRuler.row l0 pre) ++ [Value.int .i64 y])) (hgrow : ((W.drewN m).alloc (.cells #[Value.int .i64 y] 3)).grownBy w1 v.ownBlock) (hy : wrap64 (impl_MirrorRuler.last l0 - rd l0 (x.1 : Int)) = y) :
    ((W.drewN m).alloc (.cells #[Value.int .i64 y] 3)).cell? ⟨s + 1 + 1, 0, none⟩ = some v ∧ w1.cell? ⟨s + 1 + 1, 0, none⟩ = some v ∧ w1.frozen? ⟨s + 1 + 1, 0, none⟩ = false ∧ ∀ (B : Nat) (a' : Act),
      ownPostG B (KeptB s (s + 1 + 1 + 1)) (fun pre W => (∃ v, Boxed W (s + 1 + 1) 22 v ∧ W.ownsRow s 3 1 v (impl_MirrorRuler.row l0 pre).length (nums .i64 (impl_MirrorRuler.row l0 pre)) ∧ True) ∧ Boxed W s 22 u ∧ Boxed W (s + 1 + 1 + 1) 22 u ∧ Below s w W)
        (fun _ _ _ => False) (pre ++ [x]) W .normal a' (w1.setCell ⟨s + 1 + 1, 0, none⟩ v') := by
  have hv' := hv.kept (impl_MirrorRuler.gdrew W m none) (by simp)
  have hM' := hM.kept (impl_MirrorRuler.gdrew W m none) (by simp)
  have hI' := hI.kept (impl_MirrorRuler.gdrew W m none) (by simp)
  have hrow' := hrow.kept (impl_MirrorRuler.gdrew W m none) (by cases v.ownBlock <;> simp)
  have hsz : s ≤ (W.drewN m).heap.size := by have := hB.size; simp; omega
  obtain ⟨hv1, hv2, hr2, hk2, hb2⟩ := hv'.appended (by decide) hrow' hsz (by omega) hown' hgrow
  have hM1 := ((hM'.alloc (.cells #[Value.int .i64 y] 3)).kept hgrow (hM'.not_row (by decide) hrow')).other (B' := s + 1 + 1) (by omega) v'
  have hI1 := ((hI'.alloc (.cells #[Value.int .i64 y] 3)).kept hgrow (hI'.not_row (by decide) hrow')).other (B' := s + 1 + 1) (by omega) v'
  have hb3 : Below s W (w1.setCell ⟨s + 1 + 1, 0, none⟩ v') := (pw_below_drewN (Below.refl s W) m).trans hb2
  have e : impl_MirrorRuler.row l0 (pre ++ [x]) = impl_MirrorRuler.row l0 pre ++ [y] := by simp [impl_MirrorRuler.row, hy]
  refine ⟨(hv'.alloc _).cell, hv1.cell, hv1.frozen, fun B a' => ⟨((⟨Nat.le_refl _, fun _ _ h _ => h⟩ : KeepsOthers W (W.drewN m)).trans hk2).from _, ⟨hb3, hI1.trans hI.symm⟩, ⟨v', hv2, ?_, trivial⟩, hM1, hI1, hB.trans hb3⟩⟩
  rw [e, List.length_append, List.length_singleton]
  have e2 : nums .i64 (impl_MirrorRuler.row l0 pre ++ [y]) = nums .i64 (impl_MirrorRuler.row l0 pre) ++ [Value.int .i64 y] := by simp [nums]
  rw [e2]
  exact hr2
attribute [-go_sem] Builtin.append_ in
set_option maxRecDepth 100000 in
set_option maxHeartbeats 8000000 in
theorem impl_MirrorRuler.calls (k : Nat) (A0 : Option Addr) (c0 : Nat) (l0 : List Int) (r1 : List Int) (r2 : Bool) (w : World) (hr0 : Kd.C (Kd.int .i64) w A0 l0.length l0) (hc0 : l0.length ≤ c0) (h : impl_MirrorRuler.f k l0 = some (r1, r2)) :
    Calls Try.prog 22 #[.slice A0 l0.length c0] w fun e w' => ∃ v0_ : Value, e = .returned (.tuple #[v0_, .bool r2]) ∧ Kd.R (Kd.int .i64) 3 w' w.heap.size (fun _ => True) v0_ r1 ∧ Below w.heap.size w w' := by
  obtain ⟨t, ht, h2⟩ := Option.bind_eq_some_iff.mp h
  clear h
  have HR0 := Aside0.mk hr0
  have HC0 := Aside0.mk hc0
  have HT := Aside0.mk ht
  clear ht
  have hB1 : Below w.heap.size w (w.alloc (.cells #[.slice A0 l0.length c0] 22)) := (Below.refl _ w).alloc (Nat.le_refl _) _
  have HB1 := Aside0.mk hB1
  clear hB1
  cases t with
  | false =>
    have h3 := Option.some.inj ((if_neg (by simp)).symm.trans h2)
    cases h3
    clear h2 hr0
    go_enter Try.func22, Try.ntmps22
    go_wp2_with (first | (go_at_call 51; refine (impl_IsRuler.calls k _ c0 l0 false _ (Kd.C_below HR0.out HB1.out) HC0.out HT.out).mono ?_; rintro e w' ⟨rfl, ⟨nd, rfl⟩⟩))
    go_ret2
    exact ⟨_, rfl, Kd.R_nil _ _ _ _ _, pw_below_drewN HB1.out _⟩
  | true =>
    rw [if_pos rfl] at h2
    have hpl : 0 < l0.length ∧ l0.length ≤ 1000000 := by
      apply Classical.byContradiction; intro hn; rw [if_neg hn] at h2; cases h2
    rw [if_pos hpl] at h2
    obtain ⟨hr1, hr2⟩ := Prod.mk.inj (Option.some.inj h2)
    subst hr2
    have HRR := Aside0.mk hr1
    clear h2 hr1
    obtain ⟨hp, hlen⟩ := hpl
    have hbl : ∀ ad, A0 = some ad → 0 < l0.length → ad.block < w.heap.size := fun ad ha hp => by
      obtain ⟨ad', e', hc⟩ := Kd.at_int hr0 0 (by omega) (by omega)
      rw [ha] at e'; cases e'
      have := World.block_lt_of_cell? w _ hc
      rwa [add_block] at this
    have HBL := Aside0.mk hbl
    clear hr0 hbl
    have hlast : impl_length.f l0 = some (impl_MirrorRuler.last l0) := by
      have e1 : wrap64 ((l0.length : Int) - 1) = (l0.length : Int) - 1 := by unfold wrap64; omega
      unfold impl_length.f impl_MirrorRuler.last
      rw [e1, if_pos (by omega), if_pos (by omega)]
    have HLN := Aside0.mk hlast
    clear hlast
    have hro : Fence.wide.round = none := rfl
    have h1 : (1 : Nat) ≤ 10 := by omega
    obtain ⟨i0, hi, hz0, hz1, hz2⟩ := info_parts info3
    have HI := Aside0.mk hi
    clear hi
    refine callsIn_wide (n := 10).1 ?_
    refine callsIn_of_wp_marks Try.func22 rfl trivial ?_ hro
    simp only [Try.ntmps22, List.size_toArray, List.length_cons, List.length_nil, Nat.reduceAdd, Nat.reduceSub, Array.replicate_succ, Array.replicate_zero, List.push_toArray, List.append_toArray, List.nil_append, List.cons_append]
    gi_wp2_with (first | (refine ⟨trivial, ?_⟩; gi_at_call 51; refine ((callsIn_wide (n := 9)).2 (impl_IsRuler.calls k _ c0 l0 true _ (Kd.C_below HR0.out HB1.out) HC0.out HT.out)).mono ?_; rintro e w' ⟨rfl, ⟨nd, rfl⟩⟩) | (refine ⟨trivial, ?_⟩; gi_at_call 53; refine (backward_in Fence.wide 9 trivial hro _ _ _ _).mono ?_; rintro e w' ⟨rfl, rfl⟩))
    have bM := ((((Boxed.new w 22 (Value.slice A0 l0.length c0)).kept (impl_MirrorRuler.gdrew _ nd none) (by simp)).alloc (.cells #[] 3)).alloc (.cells #[.slice (some ⟨w.heap.size + 1, 0, none⟩) 0 0] 22)).alloc (.cells #[Value.slice A0 l0.length c0] 22)
    have bR := ((own_lit ((w.alloc (.cells #[Value.slice A0 l0.length c0] 22)).drewN nd) w.heap.size 3 .i64 [] (by simp) (by simp)).alloc (.cells #[.slice (some ⟨w.heap.size + 1, 0, none⟩) 0 0] 22)).alloc (.cells #[Value.slice A0 l0.length c0] 22)
    have bO := (Boxed.new (((w.alloc (.cells #[Value.slice A0 l0.length c0] 22)).drewN nd).alloc (.cells #[] 3)) 22 (.slice (some ⟨w.heap.size + 1, 0, none⟩) 0 0)).alloc (.cells #[Value.slice A0 l0.length c0] 22)
    have bI := Boxed.new ((((w.alloc (.cells #[Value.slice A0 l0.length c0] 22)).drewN nd).alloc (.cells #[] 3)).alloc (.cells #[.slice (some ⟨w.heap.size + 1, 0, none⟩) 0 0] 22)) 22 (Value.slice A0 l0.length c0)
    have hB0 : Below w.heap.size w (((((w.alloc (.cells #[Value.slice A0 l0.length c0] 22)).drewN nd).alloc (.cells #[] 3)).alloc (.cells #[.slice (some ⟨w.heap.size + 1, 0, none⟩) 0 0] 22)).alloc (.cells #[Value.slice A0 l0.length c0] 22)) :=
      (((pw_below_drewN HB1.out nd).alloc (by simp) _).alloc (by simp; omega) _).alloc (by simp; omega) _
    simp only [World.size_alloc, World.heap_drewN] at bM bR bO bI
    rw [show (nums IntKind.i64 []).toArray = #[] from rfl] at bR
    generalize hW0 : (((((w.alloc (.cells #[Value.slice A0 l0.length c0] 22)).drewN nd).alloc (.cells #[] 3)).alloc (.cells #[.slice (some ⟨w.heap.size + 1, 0, none⟩) 0 0] 22)).alloc (.cells #[Value.slice A0 l0.length c0] 22)) = W0 at *
    have hsz : W0.heap.size = w.heap.size + 1 + 1 + 1 + 1 := by rw [← hW0]; simp
    clear hW0
    refine wpIn_rangeFunc_ownG hro h1 (gf := 78) (lb := #[.pointer (some ⟨w.heap.size + 1 + 1 + 1, 0, none⟩)]) rfl trivial (enters_of Try.func78 (by kernel_rfl) rfl)
      (backward_stops Fence.wide 9 trivial hro (by omega) (w.heap.size + 1 + 1 + 1) w.heap.size A0 c0 l0 (by omega) W0 (by omega) (by omega) HBL.out bI.cell (Kd.C_below HR0.out hB0)) KeptB.trans (KeptB.put (by omega) (by omega)) (Below.refl _ _) (fun _ => rfl)
      (fun pre W => (∃ v, Boxed W (w.heap.size + 1 + 1) 22 v ∧ W.ownsRow w.heap.size 3 1 v (impl_MirrorRuler.row l0 pre).length (nums .i64 (impl_MirrorRuler.row l0 pre)) ∧ True) ∧ Boxed W w.heap.size 22 (Value.slice A0 l0.length c0) ∧ Boxed W (w.heap.size + 1 + 1 + 1) 22 (Value.slice A0 l0.length c0) ∧ Below w.heap.size w W)
      (fun _ _ _ => False)
      (OwnFrom.and (Own.from (holdsRow_own w.heap.size (w.heap.size + 1 + 1) 22 3 1 (fun pre => (impl_MirrorRuler.row l0 pre).length) (fun pre => nums .i64 (impl_MirrorRuler.row l0 pre)) (fun _ _ => True)) _) (OwnFrom.and ((boxed_own _ _ _).from _) (OwnFrom.and ((boxed_own _ _ _).from _) (ownFrom_below (Nat.le_refl _) (by omega)))))
      (fun _ _ _ _ _ hs _ _ => hs)
      ⟨⟨_, bO, bR, trivial⟩, bM, bI, hB0⟩
      (fun x => { tmps := #[.slice A0 l0.length c0, .pointer (some ⟨w.heap.size, 0, none⟩), .slice none 0 0, .bool false, .pointer (some ⟨w.heap.size + 1 + 1, 0, none⟩), undef, .int .i64 (rd l0 (x.1 : Int)),
        .slice A0 l0.length c0, .bool true, .bool false, .slice (some ⟨w.heap.size + 1, 0, none⟩) 0 0, .slice A0 l0.length c0, .func (.func 78) #[] #[.pointer (some ⟨w.heap.size + 1 + 1 + 1, 0, none⟩)], .int .i64 (x.1 : Int), .int .i64 (rd l0 (x.1 : Int)),
        undef, undef, undef, undef, undef, undef, undef, undef], defers := [] }) ?assign ?body ?done ?stop
    case assign =>
      intro l x W K hK
      gi_wp2
      exact hK
    case body =>
      rintro l pre x W ⟨⟨v, hv, hrow, _⟩, hM, hI, hB⟩ hlt
      have hc := hv.cell
      have hcm := hM.cell
      have hmx : Try.prog.follows .mixedOrders = true := by kernel_rfl
      have hpl : (impl_MirrorRuler.row l0 pre).length = pre.length := by simp [impl_MirrorRuler.row]
      gi_wp2
      obtain ⟨y, hy⟩ : ∃ y : Int, IntKind.i64.wrap (impl_MirrorRuler.last l0 - rd l0 (x.1 : Int)) = y := ⟨_, rfl⟩
      have hy' : wrap64 (impl_MirrorRuler.last l0 - rd l0 (x.1 : Int)) = y := (i64_w _).symm.trans hy
      gi_region_with_o (first | (refine ⟨trivial, ?_⟩; gi_at_call 54; refine (CallsIn.inRound l ((callsIn_wide (n := 7)).2 (impl_length.calls _ c0 l0 _ _ (Kd.C_below HR0.out (by first | exact hB | exact below_drew hB)) HC0.out HLN.out))).mono ?_; rintro e w' ⟨rfl, ⟨nd2, rfl⟩⟩; obtain ⟨v', w1, hrun, hown', hgrow, _⟩ := run_append_own (P := Try.prog) ((W.drewN (1 + nd2)).alloc (.cells #[Value.int .i64 y] 3)) w.heap.size 22 22 3 i0 (.int .i64 0) 1 8 Try.underlying22 HI.out hz0 hz1 hz2 rfl (by decide) v _ _ ((hrow.kept (impl_MirrorRuler.gdrew W (1 + nd2) none) (by cases v.ownBlock <;> simp)).alloc _) ⟨W.heap.size, 0, none⟩ 1 1 [.int .i64 y] rfl (cell_one_new _ _ _) (by simp [Value.oneCell']) (by have := hpl; unfold maxLen; omega) (by have := hpl; omega) (by have := hB.size; simp; omega); obtain ⟨g', cap', rfl⟩ := ownsRow_succ hown'; obtain ⟨hc2, hc1, hf1, hend⟩ := impl_MirrorRuler.after (x := x) rfl hv hrow hM hI hB hown' hgrow hy'; have HEND := Aside0.mk hend; clear hend hown' hgrow))
      all_goals gi_wp2
      all_goals (rw [← hpl]; exact HEND.out _ _)
    case done =>
      rintro D ys W hD hys ⟨⟨v, hv, hrow, _⟩, hM, hI, hB⟩ hK
      have hc := hv.cell
      gi_wp2
      have hr3 := ownsRow_putObj hrow (.deferred none) hK rfl
      rw [impl_MirrorRuler.row_eq l0 ys hys, HRR.out] at hr3
      have hrl : 0 < r1.length := by rw [← HRR.out]; simpa using hp
      obtain ⟨g, cap, rfl, _⟩ := hr3.form hrl
      refine ⟨by simp, .inl ⟨_, _, rfl, run_takeDeferred hK, ?_⟩⟩
      refine ⟨_, results_tmp2 rfl _ _ _, _, rfl, R_of_nums hr3, hB.trans (belowK_b (w := w) (Nat.le_refl _) W D _ _ (by omega) hK rfl rfl)⟩
    case stop =>
      rintro D c pre W _ _ h _
      exact h.elim

/-! ### laws_markIntS: function 23 -/
def laws_markIntS.l0 : Nat → List Int → Int → Int → Option (Int × List Int)
  | 0, _, _, _ => none
  | k + 1, x0, x1, x5 => if x5 < (x0.length : Int) then (if 0 ≤ x5 then (laws_markIntS.l0 k (x0.set (x5 : Int).toNat x1) (wrap64 (x1 + 1)) (wrap64 (x5 + 1))) else (none)) else (some (x1, x0))
def laws_markIntS.f (k : Nat) (l0 : List Int) (a1 : Int) : Option (Int × List Int) := laws_markIntS.l0 k l0 a1 0
theorem laws_markIntS.mono_l : ∀ k, (∀ y0 y1 y2, LeO (laws_markIntS.l0 k y0 y1 y2) (laws_markIntS.l0 (k + 1) y0 y1 y2))
  | 0 => fun _ _ _ r h => by simp [laws_markIntS.l0] at h
  | k + 1 => by
    have ih0 := laws_markIntS.mono_l k
    · intro y0 y1 y2
      unfold laws_markIntS.l0
      repeat' first
      | (with_reducible exact ih0 _ _ _)
      | (with_reducible exact LeO.refl _)
      | (with_reducible exact LeO.none _)
      | (with_reducible refine LeO.ite ?_ ?_)
      | (with_reducible refine LeO.bind ?_ (fun _ => ?_))
      | exact ih0 _ _ _
      | exact LeO.none _
      | refine LeO.ite ?_ ?_
      | refine LeO.bind ?_ (fun _ => ?_)
theorem laws_markIntS.mono : ∀ a0 a1 k, LeO (laws_markIntS.f k a0 a1) (laws_markIntS.f (k + 1) a0 a1) := by
  intro a0 a1 k
  have ih0 := laws_markIntS.mono_l k
  unfold laws_markIntS.f
  repeat' first
      | (with_reducible exact ih0 _ _ _)
      | (with_reducible exact LeO.refl _)
      | (with_reducible exact LeO.none _)
      | (with_reducible refine LeO.ite ?_ ?_)
      | (with_reducible refine LeO.bind ?_ (fun _ => ?_))
      | exact ih0 _ _ _
      | exact LeO.none _
      | refine LeO.ite ?_ ?_
      | refine LeO.bind ?_ (fun _ => ?_)
set_option maxHeartbeats 8000000 in
set_option maxRecDepth 100000 in
theorem laws_markIntS.calls (k : Nat) (P0_ : Nat → Prop) (u9000_ : Value) (l0 : List Int) (a1 : Int) (r1 : Int) (r2 : List Int) (w0 w : World) (hB : Below w0.heap.size w0 w) (ho0 : Kd.R (Kd.int .i64) 3 w w0.heap.size P0_ u9000_ l0) (h : laws_markIntS.f k l0 a1 = some (r1, r2)) :
    Calls Try.prog 23 #[u9000_, .int .i64 a1] w fun e w' => e = .returned (.int .i64 r1) ∧ Kd.R (Kd.int .i64) 3 w' w0.heap.size (fun k_ => (P0_ k_ ∨ w.heap.size ≤ k_)) u9000_ r2 ∧ Below w0.heap.size w0 w' ∧ Kept w w' (fun k_ => P0_ k_) := by
  have HO0 := Aside0.mk (show Kd.R (Kd.int .i64) 3 w w0.heap.size (fun k_ => (P0_ k_ ∨ w.heap.size ≤ k_)) u9000_ l0 from Kd.R_mono ho0 (fun k_ hk => (.inl hk)))
  have HK := Aside0.mk (Kept.refl w (fun k_ => P0_ k_))
  have HW0 := Aside0.mk hB.size
  have HB := Aside0.mk hB
  clear hB
  have H : (laws_markIntS.l0 k l0 a1 0) = some (r1, r2) := h
  clear h
  have H' := Aside0.mk H
  clear H
  go_enter Try.func23, Try.ntmps23
  go_wp2
  go_loopg [1, 5] k (fun kq v1 v5 w' => ∃ (x0_1 : List Int) (x1_1 : Int) (x5_1 : Int), v1 = .int .i64 x1_1 ∧ v5 = .int .i64 x5_1 ∧ Aside0 (laws_markIntS.l0 kq x0_1 x1_1 x5_1 = some (r1, r2)) ∧ Aside0 (kq ≤ k) ∧ Aside0 (Kd.R (Kd.int .i64) 3 w' w0.heap.size (fun k_ => (P0_ k_ ∨ w.heap.size ≤ k_)) u9000_ x0_1) ∧ Aside0 (Kept w w' (fun k_ => P0_ k_)) ∧ Aside0 (Below w0.heap.size w0 w'))
  case atStart => exact ⟨(l0), (a1), (0), (by first | rfl | (simp; done) | (simp [*]; done)), (by first | rfl | (simp; done) | (simp [*]; done)), H', ⟨Nat.le_refl _⟩, ⟨by (with_reducible repeat (first | apply Kd.R_alloc | apply Kd.R_drewN | apply Kd.R_drew)); exact HO0.out⟩, ⟨by repeat (first | (with_reducible first | exact HK.out | apply Kept.alloc | apply Kept.drewN | apply Kept.drew) | exact HK.out)⟩, ⟨by repeat (first | (with_reducible first | exact HB.out | apply below_alloc | apply pw_below_drewN | apply below_drew1) | exact HB.out)⟩⟩
  case round =>
    clear H'
    try clear c2
    try clear p2
    obtain ⟨x0_1, x1_1, x5_1, rfl, rfl, HA, HK1, HO_0, HK, HB⟩ := hrel
    cases gk with
    | zero => exact absurd HA.out (by simp [laws_markIntS.l0])
    | succ k1 =>
      have H := HA.out
      clear HA
      simp only [laws_markIntS.l0] at H
      by_cases c3 : x5_1 < (x0_1.length : Int)
      · rw [if_pos c3] at H
        have c3b0 : decide (x5_1 < (x0_1.length : Int)) = true := decide_eq_true c3
        clear c3
        by_cases c4 : 0 ≤ x5_1
        · rw [if_pos c4] at H
          have c4b0 : decide (0 ≤ x5_1) = true := decide_eq_true c4
          clear c4
          obtain ⟨y153, hy153⟩ : ∃ y_ : List Int, y_ = (x0_1.set (x5_1 : Int).toNat x1_1) := ⟨_, rfl⟩
          replace H : (laws_markIntS.l0 k1 y153 (wrap64 (x1_1 + 1)) (wrap64 (x5_1 + 1))) = some (r1, r2) := by first | (rw [hy153]; with_reducible exact H) | (have H2_ := (Option.bind_some _ _).symm.trans H; rw [hy153]; with_reducible exact H2_) | (have H2_ := (Option.bind_some _ _).symm.trans H; with_reducible exact H2_) | with_reducible exact H | (rw [hy153]; exact H) | exact H
          have Ny153 := Aside0.mk hy153
          clear hy153
          have H' := Aside0.mk H
          clear H
          obtain ⟨Ao6, co6, eo6⟩ := Kd.R_slice HO_0.out
          subst eo6
          have p5 : 0 ≤ (x5_1 : Int) := of_decide_eq_true (by first | (with_reducible assumption) | assumption)
          have q5 : (x5_1 : Int) < ((x0_1.length : Int) : Int) := of_decide_eq_true (by first | (with_reducible assumption) | assumption)
          obtain ⟨go5, co5, eo5, gb5, gl5, cl5, HG5⟩ := Kd.R_form HO_0.out (by omega)
          (first | cases eo5 | (injection eo5 with ea_ en_ ec_; (first | subst ea_ | (injection ea_ with ea_; subst ea_)); subst ec_; clear en_))
          have GB5 := Aside0.mk gb5
          have GG5 := Aside0.mk HG5
          clear gb5 gl5 HG5
          have HMgo5 := Aside0.mk (show (P0_ go5 ∨ w.heap.size ≤ go5) from (HO_0.out.1 _ rfl))
          obtain ⟨hx5_0, hf5_0⟩ := Kd.R_celln 0 HO_0.out (x5_1 : Int) p5 q5
          replace p5 := eq_true p5
          replace q5 := eq_true q5
          have HP7 := Kd.R_putg HO_0.out (x5_1 : Int) x1_1
          go_wp2_with (first | ((with_reducible refine gate_store (t := 3) (p := 15) rfl ?_); refine store_event (t := 3) (p := 15) (v := ?vo_w8) (w1 := (wr.setCell ⟨go5, (x5_1 : Int).toNat, none⟩ (.int .i64 x1_1))) ?hg ?ho ?hn ?hr ?_; (case ho => rfl); (case hg => rfl); (case hn => rfl); (case hr => first | (go_simp; done) | (go_simp; rfl)); intro w8 hw; have hg : wr.grownBy w8 (some go5) := (by rw [hw]; exact HP7.2); have hp_ : Kd.R (Kd.int .i64) 3 w8 w0.heap.size (fun k_ => (P0_ k_ ∨ w.heap.size ≤ k_)) (.slice (some ⟨go5, 0, none⟩) x0_1.length co6) y153 := (by rw [hw, Ny153.out]; exact HP7.1); clear HP7; have n0_ := Aside0.mk (hp_); have n1_ := Aside0.mk ((by rw [hw]; exact below_set (HB.out) GB5.out : Below w0.heap.size w0 w8)); have n2_ := Aside0.mk (Kept.of_grown (S := (fun k_ => P0_ k_)) hg (by repeat (first | (with_reducible first | exact HK.out | apply Kept.alloc | apply Kept.drewN | apply Kept.drew) | exact HK.out)) (fun k_ e_ => (HO_0.out.1 k_ e_))); clear HO_0; clear HB; clear HK; have HO_0 := n0_; have HB := n1_; have HK := n2_; clear n0_ n1_ n2_; clear hg hw hp_))
          go_roundg k1
          case measure => have := HK1.out; omega
          case rel => exact ⟨(y153), (wrap64 (x1_1 + 1)), (wrap64 (x5_1 + 1)), (by first | rfl | (simp; done) | (simp [*]; done)), (by first | rfl | (simp; done) | (simp [*]; done)), H', ⟨by have := HK1.out; omega⟩, ⟨by (with_reducible repeat (first | apply Kd.R_alloc | apply Kd.R_drewN | apply Kd.R_drew)); exact HO_0.out⟩, ⟨by repeat (first | (with_reducible first | exact HK.out | apply Kept.alloc | apply Kept.drewN | apply Kept.drew) | exact HK.out)⟩, ⟨by repeat (first | (with_reducible first | exact HB.out | apply below_alloc | apply pw_below_drewN | apply below_drew1) | exact HB.out)⟩⟩
        · rw [if_neg c4] at H
          exact absurd H (by simp)
      · rw [if_neg c3] at H
        have c3b0 : decide (x5_1 < (x0_1.length : Int)) = false := decide_eq_false c3
        clear c3
        simp only [Option.some.injEq, Prod.mk.injEq] at H
        obtain ⟨rfl, rfl⟩ := H
        obtain ⟨Ao9, co9, eo9⟩ := Kd.R_slice HO_0.out
        subst eo9
        go_wp2
        go_ret
        exact ⟨by first | rfl | (simp [errW_none, errW_some] <;> rfl) | (simp [*, errW_none, errW_some] <;> rfl), by (with_reducible repeat (first | apply Kd.R_alloc | apply Kd.R_drewN | apply Kd.R_drew)); exact HO_0.out, by repeat (first | (with_reducible first | exact HB.out | apply below_alloc | apply pw_below_drewN | apply below_drew1) | exact HB.out), by repeat (first | (with_reducible first | exact HK.out | apply Kept.alloc | apply Kept.drewN | apply Kept.drew) | exact HK.out)⟩

/-! ### laws_heldIntS: function 24 -/
def laws_heldIntS.l0 : Nat → List Int → Int → Int → Option (Int)
  | 0, _, _, _ => none
  | k + 1, x0, x1, x5 => if x5 < (x0.length : Int) then (if 0 ≤ x5 then (if (rd x0 x5) = x1 then (laws_heldIntS.l0 k x0 (wrap64 (x1 + 1)) (wrap64 (x5 + 1))) else (some (-1))) else (none)) else (some x1)
def laws_heldIntS.f (k : Nat) (l0 : List Int) (a1 : Int) : Option (Int) := laws_heldIntS.l0 k l0 a1 0
theorem laws_heldIntS.mono_l : ∀ k, (∀ y0 y1 y2, LeO (laws_heldIntS.l0 k y0 y1 y2) (laws_heldIntS.l0 (k + 1) y0 y1 y2))
  | 0 => fun _ _ _ r h => by simp [laws_heldIntS.l0] at h
  | k + 1 => by
    have ih0 := laws_heldIntS.mono_l k
    · intro y0 y1 y2
      unfold laws_heldIntS.l0
      repeat' first
      | (with_reducible exact ih0 _ _ _)
      | (with_reducible exact LeO.refl _)
      | (with_reducible exact LeO.none _)
      | (with_reducible refine LeO.ite ?_ ?_)
      | (with_reducible refine LeO.bind ?_ (fun _ => ?_))
      | exact ih0 _ _ _
      | exact LeO.none _
      | refine LeO.ite ?_ ?_
      | refine LeO.bind ?_ (fun _ => ?_)
theorem laws_heldIntS.mono : ∀ a0 a1 k, LeO (laws_heldIntS.f k a0 a1) (laws_heldIntS.f (k + 1) a0 a1) := by
  intro a0 a1 k
  have ih0 := laws_heldIntS.mono_l k
  unfold laws_heldIntS.f
  repeat' first
      | (with_reducible exact ih0 _ _ _)
      | (with_reducible exact LeO.refl _)
      | (with_reducible exact LeO.none _)
      | (with_reducible refine LeO.ite ?_ ?_)
      | (with_reducible refine LeO.bind ?_ (fun _ => ?_))
      | exact ih0 _ _ _
      | exact LeO.none _
      | refine LeO.ite ?_ ?_
      | refine LeO.bind ?_ (fun _ => ?_)
set_option maxHeartbeats 8000000 in
set_option maxRecDepth 100000 in
theorem laws_heldIntS.calls (k : Nat) (A0 : Option Addr) (c0 : Nat) (l0 : List Int) (a1 : Int) (r : Int) (w : World) (hr0 : Kd.C (Kd.int .i64) w A0 l0.length l0) (hc0 : l0.length ≤ c0) (h : laws_heldIntS.f k l0 a1 = some r) :
    Calls Try.prog 24 #[.slice A0 l0.length c0, .int .i64 a1] w fun e w' => e = .returned (.int .i64 r) ∧ Drawn0 w w' := by
  have HR0 := Aside0.mk hr0
  have HC0 := Aside0.mk hc0
  clear hr0 hc0
  have H : (laws_heldIntS.l0 k l0 a1 0) = some r := h
  clear h
  have H' := Aside0.mk H
  clear H
  go_enter Try.func24, Try.ntmps24
  go_wp2
  go_loopg [1, 5] k (fun kq v1 v5 w' => ∃ (x1_1 : Int) (x5_1 : Int), v1 = .int .i64 x1_1 ∧ v5 = .int .i64 x5_1 ∧ Aside0 (laws_heldIntS.l0 kq l0 x1_1 x5_1 = some r) ∧ Aside0 (kq ≤ k) ∧ Drawn0 w w')
  case atStart => exact ⟨(a1), (0), (by first | rfl | (simp; done) | (simp [*]; done)), (by first | rfl | (simp; done) | (simp [*]; done)), H', ⟨Nat.le_refl _⟩, by repeat (first | exact Drawn0.refl _ | apply Drawn0.step)⟩
  case round =>
    clear H'
    try clear c2
    try clear p2
    obtain ⟨x1_1, x5_1, rfl, rfl, HA, HK1, ⟨m1, rfl⟩⟩ := hrel
    cases gk with
    | zero => exact absurd HA.out (by simp [laws_heldIntS.l0])
    | succ k1 =>
      have H := HA.out
      clear HA
      simp only [laws_heldIntS.l0] at H
      by_cases c3 : x5_1 < (l0.length : Int)
      · rw [if_pos c3] at H
        have c3b0 : decide (x5_1 < (l0.length : Int)) = true := decide_eq_true c3
        clear c3
        by_cases c4 : 0 ≤ x5_1
        · rw [if_pos c4] at H
          have c4b0 : decide (0 ≤ x5_1) = true := decide_eq_true c4
          clear c4
          by_cases c5 : (rd l0 x5_1) = x1_1
          · rw [if_pos c5] at H
            have c5b0 : ((rd l0 x5_1) == x1_1) = true := beq_iff_eq.mpr c5
            have c5b1 : ((rd l0 x5_1) != x1_1) = false := bne_eq_false_iff_eq.mpr c5
            clear c5
            have H' := Aside0.mk H
            clear H
            have p154 : 0 ≤ (x5_1 : Int) := of_decide_eq_true (by first | (with_reducible assumption) | assumption)
            have q154 : x5_1 < (l0.length : Int) := of_decide_eq_true (by first | (with_reducible assumption) | assumption)
            obtain ⟨ad154, e154, hx154_0⟩ := Kd.at_int HR0.out x5_1 p154 q154
            cases e154
            replace p154 := eq_true p154
            replace q154 := eq_true q154
            go_wp2
            go_roundg k1
            case measure => have := HK1.out; omega
            case rel => exact ⟨(wrap64 (x1_1 + 1)), (wrap64 (x5_1 + 1)), (by first | rfl | (simp; done) | (simp [*]; done)), (by first | rfl | (simp; done) | (simp [*]; done)), H', ⟨by have := HK1.out; omega⟩, by repeat (first | exact Drawn0.refl _ | apply Drawn0.step)⟩
          · rw [if_neg c5] at H
            have c5b0 : ((rd l0 x5_1) == x1_1) = false := beq_eq_false_iff_ne.mpr c5
            have c5b1 : ((rd l0 x5_1) != x1_1) = true := bne_iff_ne.mpr c5
            obtain rfl := Option.some.inj H
            have p154 : 0 ≤ (x5_1 : Int) := of_decide_eq_true (by first | (with_reducible assumption) | assumption)
            have q154 : x5_1 < (l0.length : Int) := of_decide_eq_true (by first | (with_reducible assumption) | assumption)
            obtain ⟨ad154, e154, hx154_0⟩ := Kd.at_int HR0.out x5_1 p154 q154
            cases e154
            replace p154 := eq_true p154
            replace q154 := eq_true q154
            go_wp2
            go_ret
            exact ⟨by first | rfl | (simp; done) | (simp [*]; done), by repeat (first | exact Drawn0.refl _ | apply Drawn0.step)⟩
        · rw [if_neg c4] at H
          exact absurd H (by simp)
      · rw [if_neg c3] at H
        have c3b0 : decide (x5_1 < (l0.length : Int)) = false := decide_eq_false c3
        clear c3
        obtain rfl := Option.some.inj H
        go_wp2
        go_ret
        exact ⟨by first | rfl | (simp; done) | (simp [*]; done), by repeat (first | exact Drawn0.refl _ | apply Drawn0.step)⟩

end Go.Proofs.Ytlkgojgmgdeieaa.G
