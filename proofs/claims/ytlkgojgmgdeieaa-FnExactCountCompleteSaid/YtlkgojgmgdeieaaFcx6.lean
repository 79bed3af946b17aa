/- Functions of the program and of the reference as Lean functions, and the contracts of their calls: laid by a program of this repo (wip/gen.py), in part by hand. -/
import Derived.Test.YtlkgojgmgdeieaaFcx0
import Derived.Test.YtlkgojgmgdeieaaFcx5
namespace Go.Proofs.Ytlkgojgmgdeieaa.Fc
open Go.RowKit Go.Proofs.YtlkgojgmgdeieaaW.PrintWords Go.Proofs.YtlkgojgmgdeieaaW.PrintLast Go.Proofs.YtlkgojgmgdeieaaW.PrintMore
attribute [local go_sem] max2_int min2_int max_two min_two max_three min_three max_four min_four   -- for this text's walks alone
set_option linter.unusedVariables false
set_option linter.unusedSimpArgs false

/-! ### impl_completes: function 69 -/
/-- So many numbers from k on are added up. -/
def impl_completes.roomF : Nat → Int → Int → Int
  | 0, _, acc => acc
  | n + 1, k, acc => impl_completes.roomF n (k + 1) (wrap64 (acc + k))
/-- What all marks from m on lead to, one behind the other. -/
def impl_completes.loop (k : Nat) (F : List Int → Int → Option (List (List Int))) (l : List Int) (told : Int) : Nat → Int → Option (List (List Int))
  | 0, _ => some []
  | j + 1, m => (impl_differences.f k l m).bind fun b => (F (l ++ [m]) (Go.bits .or .u64 told b)).bind fun r => (impl_completes.loop k F l told j (m + 1)).bind fun s => some (r ++ s)
def impl_completes.top (l : List Int) : Int := rd l (wrap64 ((l.length : Int) - 1))
def impl_completes.put (k : Nat) (e alls : Int) : Nat → List Int → Int → Option (List (List Int))
  | 0, l, told => if 0 < l.length ∧ l.length ≤ 1000 then ((impl_differences.f k l e).bind fun b => if Go.bits .or .u64 told b = alls then some [l ++ [e]] else some []) else none
  | d + 1, l, told => if 0 < l.length ∧ l.length ≤ 1000 then ((bits_OnesCount64.f told).bind fun n => if wrap64 (n + impl_completes.roomF (d + 2) (l.length : Int) 0) < e then some [] else (if 0 ≤ impl_completes.top l ∧ impl_completes.top l ≤ 60 then impl_completes.loop k (impl_completes.put k e alls d) l told (e - (impl_completes.top l + 1)).toNat (impl_completes.top l + 1) else none)) else none
theorem impl_completes.loop_mono (k : Nat) {F F' : List Int → Int → Option (List (List Int))} (hF : ∀ l t, LeO (F l t) (F' l t)) (l : List Int) (told : Int) : ∀ (j : Nat) (m : Int), LeO (impl_completes.loop k F l told j m) (impl_completes.loop (k + 1) F' l told j m)
  | 0, _ => LeO.refl _
  | j + 1, m => LeO.bind (impl_differences.mono _ _ _) (fun b => LeO.bind (hF _ _) (fun r => LeO.bind (impl_completes.loop_mono k hF l told j (m + 1)) (fun _ => LeO.refl _)))
theorem impl_completes.put_mono (k : Nat) (e alls : Int) : ∀ (d : Nat) (l : List Int) (told : Int), LeO (impl_completes.put k e alls d l told) (impl_completes.put (k + 1) e alls d l told)
  | 0, l, told => LeO.ite (LeO.bind (impl_differences.mono _ _ _) (fun _ => LeO.refl _)) (LeO.refl _)
  | d + 1, l, told => LeO.ite (LeO.bind (LeO.refl _) (fun _ => LeO.ite (LeO.refl _) (LeO.ite (impl_completes.loop_mono k (impl_completes.put_mono k e alls d) l told _ _) (LeO.refl _)))) (LeO.refl _)
def impl_completes.l0 (k : Nat) (e alls : Int) : Nat → Int → Option (List (List Int))
  | 0, _ => none
  | q + 1, inner => if inner ≤ 60 then ((impl_completes.put k e alls inner.toNat [0] 0).bind fun r => if r.length ≤ 1000000000000 then (if 0 < r.length then some r else impl_completes.l0 k e alls q (inner + 1)) else none) else none
theorem impl_completes.l0_mono (k : Nat) (e alls : Int) : ∀ (q : Nat) (i : Int), LeO (impl_completes.l0 k e alls q i) (impl_completes.l0 (k + 1) e alls (q + 1) i)
  | 0, _ => fun r h => by simp [impl_completes.l0] at h
  | q + 1, i => by
    rw [impl_completes.l0, impl_completes.l0]
    exact LeO.ite (LeO.bind (impl_completes.put_mono k e alls _ _ _) (fun _ => LeO.ite (LeO.ite (LeO.refl _) (impl_completes.l0_mono k e alls q _)) (LeO.refl _))) (LeO.refl _)
/-- So many low bits. -/
def impl_completes.allF (a0 : Int) : Int := IntKind.u64.wrap (IntKind.u64.wrap (2 ^ a0.toNat) - 1)
def impl_completes.f (k : Nat) (a0 : Int) : Option (List (List Int) × Bool) := (impl_within.f a0 1 20).bind fun t => if t = true then (if 1 ≤ a0 ∧ a0 ≤ 20 then ((impl_completes.l0 k a0 (impl_completes.allF a0) k 0).bind fun r => some (r, true)) else none) else some ([], false)
theorem impl_completes.mono : ∀ a0 k, LeO (impl_completes.f k a0) (impl_completes.f (k + 1) a0) := by
  intro a0 k
  unfold impl_completes.f
  exact LeO.bind (LeO.refl _) (fun _ => LeO.ite (LeO.ite (LeO.bind (impl_completes.l0_mono k _ _ k _) (fun _ => LeO.refl _)) (LeO.refl _)) (LeO.refl _))
/-- What the closure leaves as it was: all below a world, and all rows and variables but the rulers' row and its variable. -/
def impl_completes.Fr (base : Nat) (w W : World) : Prop := Below base w W ∧ ∀ (k : Nat) (cells : Array Value) (t : Nat), t ≠ 22 → t ≠ 50 → w.heap[k]? = some (.cells cells t (0, 0)) → W.heap[k]? = some (.cells cells t (0, 0))
theorem impl_completes.Fr.refl (base : Nat) (w : World) : impl_completes.Fr base w w := ⟨Below.refl _ _, fun _ _ _ _ _ h => h⟩
theorem impl_completes.Fr.of_below {base : Nat} {w W : World} (hb : Below w.heap.size w W) (h : base ≤ w.heap.size) : impl_completes.Fr base w W := ⟨hb.mono h, fun _ _ _ _ _ h => blk_below h hb⟩
theorem impl_completes.Fr.trans {base : Nat} {w W V : World} (h : impl_completes.Fr base w W) (g : impl_completes.Fr base W V) : impl_completes.Fr base w V := ⟨h.1.trans g.1, fun k cells t h1 h2 h3 => g.2 k cells t h1 h2 (h.2 k cells t h1 h2 h3)⟩
theorem impl_completes.Fr.row {base b : Nat} {w W : World} {v : Value} {l : List Int} {ok : Nat → Prop} (f : impl_completes.Fr base w W) (h : Kd.R (Kd.int .i64) 3 w b ok v l) : Kd.R (Kd.int .i64) 3 W b ok v l := by
  refine Kd.R_mono (Kd.R_move (Kd.R_bound h) (fun k hk => ?_)) (fun _ hk => hk.1)
  obtain ⟨_, _, _, q, hq, cells, hc⟩ := hk
  have h3 : q = 3 := by simpa [Kd.int, Kd.scalar] using hq
  subst h3
  exact (f.2 k cells 3 (by decide) (by decide) hc).trans hc.symm
/-- The variables that the closure reads. -/
def impl_completes.Box (inner e alls : Int) (bi bl ba bo bp : Nat) (W : World) : Prop := W.heap[bi]? = some (.cells #[.int .i64 inner] 3 (0, 0)) ∧ W.heap[bl]? = some (.cells #[.int .i64 e] 3 (0, 0)) ∧ W.heap[ba]? = some (.cells #[.int .u64 alls] 58 (0, 0)) ∧ W.heap[bp]? = some (.cells #[(.func (.func 84) #[] #[.pointer (some ⟨bi, 0, none⟩), .pointer (some ⟨bl, 0, none⟩), .pointer (some ⟨ba, 0, none⟩), .pointer (some ⟨bo, 0, none⟩), .pointer (some ⟨bp, 0, none⟩)])] 59 (0, 0))
theorem impl_completes.Box.move {inner e alls : Int} {bi bl ba bo bp base : Nat} {w W : World} (h : impl_completes.Box inner e alls bi bl ba bo bp w) (f : impl_completes.Fr base w W) : impl_completes.Box inner e alls bi bl ba bo bp W :=
  ⟨f.2 _ _ _ (by decide) (by decide) h.1, f.2 _ _ _ (by decide) (by decide) h.2.1, f.2 _ _ _ (by decide) (by decide) h.2.2.1, f.2 _ _ _ (by decide) (by decide) h.2.2.2⟩
theorem impl_completes.R_of {W : World} {base : Nat} {v : Value} {xs : List Int} (h : W.ownsRow base 3 1 v xs.length (xs.map (Value.int .i64))) : Kd.R (Kd.int .i64) 3 W base (fun _ => True) v xs := by
  refine ⟨fun _ _ => trivial, xs.map (Value.int .i64), h, (by show (xs.map (Value.int .i64)).length = xs.length * 1; simp), fun j p hj => ?_⟩
  obtain ⟨hl, rfl⟩ := List.getElem?_eq_some_iff.1 hj
  show ((xs.map (Value.int .i64)).drop (j * 1)).take 1 = [Value.int .i64 xs[j]]
  rw [Nat.mul_one, List.drop_eq_getElem_cons (by simpa using hl)]
  simp
/-- A row that is read and not empty: where it lies, and its cells. -/
theorem impl_completes.C_cells {w : World} {A0 : Option Addr} {l0 : List Int} (h : Kd.C (Kd.int .i64) w A0 l0.length l0) (hp : 0 < l0.length) :
    ∃ b off, A0 = some ⟨b, off, none⟩ ∧ b < w.heap.size ∧ ∀ j, j < l0.length → w.cell? ⟨b, off + j, none⟩ = some (.int .i64 (l0.getD j 0)) := by
  obtain ⟨ad, rfl, h0⟩ := Kd.at_int h 0 (by omega) (by omega)
  have hs : ad.spot = none := by
    cases hsp : ad.spot with
    | none => rfl
    | some x =>
      simp only [Int.toNat_zero, Addr.add, if_true, World.cell?] at h0
      split at h0
      · simp [hsp] at h0
      · cases h0
  have hlt := World.block_lt_of_cell? w _ h0
  rw [add_block] at hlt
  obtain ⟨b, off, sp⟩ := ad
  simp only at hs hlt
  subst hs
  refine ⟨b, off, rfl, hlt, fun j hj => ?_⟩
  obtain ⟨ad', e', hc⟩ := Kd.at_int h (j : Int) (by omega) (by omega)
  cases e'
  rw [Int.toNat_natCast] at hc
  have e : (⟨b, off, none⟩ : Addr).add j = ⟨b, off + j, none⟩ := by
    unfold Addr.add
    by_cases hj0 : j = 0
    · subst hj0; rfl
    · rw [if_neg hj0]
  rw [e] at hc
  exact hc
/-- slices.Clone of marks, in any later world. -/
theorem impl_completes.clone {W : World} {A : Option Addr} {l : List Int} (c : Nat) (hr : Kd.C (Kd.int .i64) W A l.length l) (hc : l.length ≤ c) (hp : 0 < l.length) (hl : l.length ≤ 1000) (w1 : World) (hb : Below W.heap.size W w1) :
    Calls Try.prog 74 #[.slice A l.length c] w1 fun e w' => ∃ v, e = .returned v ∧ Kd.R (Kd.int .i64) 3 w' w1.heap.size (fun _ => True) v l ∧ Below w1.heap.size w1 w' := by
  obtain ⟨b, off, rfl, _, hcell⟩ := impl_completes.C_cells hr hp
  refine (Try.slices_Clone_int b off l.length c l w1 (Nat.le_refl _) (by omega) (fun j hj => (hb.cell (World.block_lt_of_cell? W _ (hcell j hj))).trans (hcell j hj))).mono ?_
  rintro e w' ⟨v', rfl, hown, hne, hbel⟩
  rw [List.take_length] at hown
  exact ⟨v', rfl, impl_completes.R_of hown, hbel⟩
/-- append of one number to a row that was just made, as a step of a region that draws. -/
theorem impl_completes.step_append {ops : Array Oper} {o : Oper} {a : Act} {Q : Exit → Act → World → Prop} {Kc : Act → World → Prop} {w0 w : World} (base gv : Nat) (hw : Region.wanted o (yielded ops a.tmps) = true) (s x : Operand)
    (ho : o.op = .call { callee := .builtin .append, args := #[s, x], argTypes := #[22, 22] }) (v : Value) (l : List Int) (p : Int) (hs : a.eval s = v) (hx : a.eval x = .slice (some ⟨gv, 0, none⟩) 1 1)
    (hg : w.heap[gv]? = some (.cells #[.int .i64 p] 3 (0, 0))) (HO : Kd.R (Kd.int .i64) 3 w base (fun _ => True) v l) (HB : Below base w0 w) (hbase : base ≤ w.heap.size) (hl : l.length ≤ 1000)
    (h : ∀ v1 w1, Kd.R (Kd.int .i64) 3 w1 base (fun _ => True) v1 (l ++ [p]) → Below base w0 w1 → (∀ (ad : Addr) (u : Value), ad.block < base → w.cell? ad = some u → w1.cell? ad = some u) → Kc (a.put o.dst v1) w1) :
    if Region.wanted o (yielded ops a.tmps) = true then Oper.wp Try.prog o a w Kc Q else Kc (a.put o.dst undef) w := by
  obtain ⟨i0, hi, hzz⟩ := Option.map_eq_some_iff.1 info3
  simp only [Prod.mk.injEq] at hzz
  obtain ⟨hz0, hz1, hz2⟩ := hzz
  rw [if_pos hw]
  have hown := Kd.own_of_R HO
  obtain ⟨v1, w1, hr, hown1, hgr, _, hat⟩ := run_append_own_at (P := Try.prog) w base 22 o.type 3 i0 (.int .i64 0) 1 8 Try.underlying22 hi hz0 hz1 hz2 rfl (by decide) v l.length (encs (Value.int .i64) l) hown ⟨gv, 0, none⟩ 1 1 [.int .i64 p] (by simp)
    (by simpa using World.news_of_block hg) (by simp [Value.oneCell']) (by simp only [maxLen]; omega) (by omega) hbase
  unfold Oper.wp execOp
  simp only [ho, resolve, invoke, builtin, Sem.run_bind, Sem.run_pure, Result.andThen_ok, List.map_toArray, List.map_cons, List.map_nil, hs, hx, hr]
  refine h v1 w1 (Kd.R_of_own ?_ (fun _ _ => trivial)) (HB.grown hgr hbase (own_base hown)) (fun ad u hlt hc => ?_)
  · have e : encs (Value.int .i64) (l ++ [p]) = encs (Value.int .i64) l ++ [.int .i64 p] := by simp [encs]
    rw [e, List.length_append]
    exact hown1
  · exact (((Below.refl base w).grown hgr hbase (own_base hown)).cell hlt).trans hc
theorem impl_completes.infoS : (Try.prog.info? 22).map (fun i => (i.zero, i.size, i.bytes)) = some (some (.slice none 0 0), 1, 24) := by kernel_rfl
theorem impl_completes.enters (args : Array Value) (w : World) : (callFunc 84 args).run Try.prog w = .ok (.enter 84 args) w := by go_simp
theorem impl_completes.Fr.set {base bo : Nat} {w : World} {vo : Value} (hbk : w.heap[bo]? = some (.cells #[vo] 50 (0, 0))) (hbo : base ≤ bo) (u : Value) : impl_completes.Fr base w (w.setCell ⟨bo, 0, none⟩ u) := by
  refine ⟨(Below.refl _ _).setCell hbo _, fun k cells t h1 h2 h3 => ?_⟩
  rw [heap_setCell_other _ _ _ _ (show k ≠ bo from blk_ne h3 hbk h2)]
  exact h3
theorem impl_completes.Fr.grown {base : Nat} {w W : World} {v : Value} {rows : List (List Int)} {ok : Nat → Prop} {b : Nat} (hS : Kd.S (Kd.slice 3 (Kd.int .i64)) 22 w b ok v rows) (hb : Below base w W) (hg : w.grownBy W v.ownBlock) : impl_completes.Fr base w W :=
  ⟨hb, fun k cells t h1 h2 h3 => blk_grown h3 hg (Kd.S_ne hS h3 (fun e => h1 e.symm))⟩
theorem impl_completes.store_put (W : World) (c : Array Value) : (store ⟨W.heap.size, 0, none⟩ (.func (.func 84) #[] c)).run Try.prog (W.alloc (.cells #[.nilFunc] 59)) = .ok () (W.alloc (.cells #[.func (.func 84) #[] c] 59)) := by
  rw [run_store _ _ _ _ _ rfl]
  first | (go_simp; done) | (go_simp; rfl)
theorem impl_completes.store_put2 (W : World) (o : Obj) (c : Array Value) : (store ⟨W.heap.size + 1, 0, none⟩ (.func (.func 84) #[] c)).run Try.prog ((W.alloc o).alloc (.cells #[.nilFunc] 59)) = .ok () ((W.alloc o).alloc (.cells #[.func (.func 84) #[] c] 59)) := by
  have := impl_completes.store_put (W.alloc o) c
  rw [World.size_alloc] at this
  exact this
set_option maxRecDepth 100000 in
set_option maxHeartbeats 8000000 in
/-- What the closure appends. -/
theorem impl_completes.put_calls (k : Nat) (inner e alls : Int) (bi bl ba bo bp base : Nat) (hie : inner ≤ 100 ∧ e ≤ 100) (hbo : base ≤ bo) : ∀ (d : Nat) (l : List Int) (told : Int) (res rows : List (List Int)) (A : Option Addr) (c : Nat) (vo : Value) (W : World), impl_completes.put k e alls d l told = some res → (l.length : Int) + d = inner + 1 → impl_completes.Box inner e alls bi bl ba bo bp W → W.heap[bo]? = some (.cells #[vo] 50 (0, 0)) →
    Kd.S (Kd.slice 3 (Kd.int .i64)) 22 W base (fun _ => True) vo rows → base ≤ W.heap.size → Kd.R (Kd.int .i64) 3 W base (fun _ => True) (.slice A l.length c) l → rows.length + res.length ≤ 1000000000000 →
    Calls Try.prog 84 #[.slice A l.length c, .int .u64 told, .pointer (some ⟨bi, 0, none⟩), .pointer (some ⟨bl, 0, none⟩), .pointer (some ⟨ba, 0, none⟩), .pointer (some ⟨bo, 0, none⟩), .pointer (some ⟨bp, 0, none⟩)] W fun e_ w' => e_ = .returned (.tuple #[]) ∧ impl_completes.Fr base W w' ∧ ∃ vo' : Value, w'.heap[bo]? = some (.cells #[vo'] 50 (0, 0)) ∧ Kd.S (Kd.slice 3 (Kd.int .i64)) 22 w' base (fun _ => True) vo' (rows ++ res) := by
  intro d
  induction d with
  | zero =>
    intro l told res rows A c vo W hput hlen hbox hbk hS hbase hR hrl
    rw [impl_completes.put] at hput
    have hll : 0 < l.length ∧ l.length ≤ 1000 := by
      apply Classical.byContradiction; intro hn; rw [if_neg hn] at hput; cases hput
    rw [if_pos hll] at hput
    obtain ⟨b, hb1, h2⟩ := Option.bind_eq_some_iff.1 hput
    obtain ⟨Ao, co, rfl⟩ := Kd.S_slice hS
    have HRD := Kd.R_reads' hR
    have HD := Aside0.mk (fun (w1 : World) (hb : Below W.heap.size W w1) => impl_differences.calls k A c l e b w1 (Kd.C_below HRD.2.2 hb) HRD.2.1 hb1)
    have HK := Aside0.mk (impl_completes.clone c HRD.2.2 HRD.2.1 hll.1 hll.2)
    have HLEN := Aside0.mk hll
    have HBX := Aside0.mk hbox
    have HBK := Aside0.mk hbk
    have HSS := Aside0.mk hS
    have HRL := Aside0.mk hrl
    have HBA := Aside0.mk hbase
    have HLT := Aside0.mk (show bo < W.heap.size ∧ bl < W.heap.size from ⟨blk_lt hbk, blk_lt hbox.2.1⟩)
    have hc1 := (blk_cell hbox.1 0).trans rfl
    have hc2 := (blk_cell hbox.2.1 0).trans rfl
    have hc3 := (blk_cell hbox.2.2.1 0).trans rfl
    have hwi : wrap64 (inner + 1) = (l.length : Int) := by unfold wrap64; omega
    obtain ⟨told', ht⟩ : ∃ t : Int, Go.bits .or .u64 told b = t := ⟨_, rfl⟩
    rw [ht] at h2
    clear hput hb1 HRD hbox hbk hS hR hlen hrl hbase
    by_cases hq : told' = alls
    · rw [if_pos hq] at h2
      obtain ⟨y, hy⟩ : ∃ y_ : List Int, y_ = l ++ [e] := ⟨_, rfl⟩
      rw [← hy] at h2
      have hyl : y.length = l.length + 1 := by rw [hy]; simp
      have Ny := Aside0.mk hy
      have HYL := Aside0.mk hyl
      obtain rfl := Option.some.inj h2
      have hqb : (told' == alls) = true := by simp [hq]
      clear h2 hq hy hyl
      go_enter Try.func84, Try.ntmps84
      try go_wp2_with (go_at_call 85; refine (HD.out _ (Below.refl _ _)).mono ?_; rintro e_ w1 ⟨rfl, q_, rfl⟩; have HB := Aside0.mk (pw_below_drewN (Below.refl W.heap.size W) q_); have HCE := Aside0.mk (show (W.drewN q_).cell? ⟨bo, 0, none⟩ = some (.slice Ao rows.length co) ∧ (W.drewN q_).cell? ⟨bl, 0, none⟩ = some (.int .i64 e) from ⟨(blk_cell HBK.out 0).trans rfl, (blk_cell HBX.out.2.1 0).trans rfl⟩))
      refine start_ (n := 9) (S := fun w' => w'.cell? ⟨bo, 0, none⟩ = some (.slice Ao rows.length co) ∧ w'.cell? ⟨bl, 0, none⟩ = some (.int .i64 e)) (ds := [8]) #[false, false, false, false, false, false, false, false, false] (by kernel_rfl) rfl rfl HCE.out (fun hHeld => ?_)
      replace HB := Aside0.mk (below_drew1 HB.out)
      generalize World.drew _ = w1 at HB hHeld ⊢
      refine take_ (i := 0) (N := some 25) (v := ?_) (a' := ?_) #[true, false, false, false, false, false, false, false, false] rfl rfl (by kernel_rfl) (fun _ _ _ h => h) (Or.inl ⟨by rfl, ?_⟩) hHeld ?_ ?_
      rotate_left
      · rintro w' ⟨s0, s1⟩
        go_simp
        with_reducible rfl
      rotate_left
      · simp only [Act.put, List.setIfInBounds_toArray, List.set_cons_zero, List.set_cons_succ, i64_w, i32_w]
        rfl
      refine pure_ (i := 1) (N := some 26) (v := ?_) (a' := ?_) #[true, true, false, false, false, false, false, false, false] rfl rfl (by kernel_rfl) (fun _ _ _ h => h) (Or.inl ⟨by rfl, ?_⟩) ?_ ?_
      rotate_left
      · intro w'
        go_simp
        with_reducible rfl
      rotate_left
      · simp only [Act.put, List.setIfInBounds_toArray, List.set_cons_zero, List.set_cons_succ, i64_w, i32_w]
        rfl
      refine take_ (i := 3) (N := some 28) (v := ?_) (a' := ?_) #[true, true, false, true, false, false, false, false, false] rfl rfl (by kernel_rfl) (fun _ _ _ h => h) (Or.inl ⟨by rfl, ?_⟩) hHeld ?_ ?_
      rotate_left
      · rintro w' ⟨s0, s1⟩
        go_simp
        with_reducible rfl
      rotate_left
      · simp only [Act.put, List.setIfInBounds_toArray, List.set_cons_zero, List.set_cons_succ, i64_w, i32_w]
        rfl
      refine join_ (σ := Value × Nat) 4 #[true, true, true, true, true, false, false, false, false] (fun s => [(27, s.1), (29, .slice (some ⟨s.2, 0, none⟩) 1 1)]) (fun s w' => (w'.cell? ⟨bo, 0, none⟩ = some (.slice Ao rows.length co) ∧ w'.cell? ⟨bl, 0, none⟩ = some (.int .i64 e)) ∧ Kd.R (Kd.int .i64) 3 w' W.heap.size (fun _ => True) s.1 l ∧ w'.heap[s.2]? = some (.cells #[.int .i64 e] 3 (0, 0)) ∧ Below W.heap.size W w') ?hcont (fun hcont => ?_)
      case hcont =>
        rintro ⟨v1, gv⟩ wj ⟨hHeld, hc_, hg_, hb_⟩
        replace HB := Aside0.mk hb_
        have HC_ := Aside0.mk hc_
        have HG_ := Aside0.mk hg_
        clear hb_ hc_ hg_
        refine norm_ (a' := ?_) ?_ ?_
        rotate_left
        · simp only [putAll, Act.put, List.setIfInBounds_toArray, List.set_cons_zero, List.set_cons_succ]
          rfl
        refine one_ (i := 5) (N := some 30) #[true, true, true, true, true, true, false, false, false] rfl rfl (by kernel_rfl) (by decide) (fun K hK => ?_)
        refine impl_completes.step_append W.heap.size gv (by rfl) (.tmp 27) (.tmp 29) rfl v1 l e rfl rfl HG_.out HC_.out HB.out (below_size HB.out) HLEN.out.2 ?_
        intro v2 w4 ho hb hk_
        rw [← Ny.out] at ho
        replace HB := Aside0.mk hb
        have HO := Aside0.mk ho
        refine hK.out _ _ ⟨hk_ _ _ HLT.out.1 hHeld.1, hk_ _ _ HLT.out.2 hHeld.2⟩ (fun hHeld => ?_)
        clear hK K ho hb hk_ HC_ HG_
        refine norm_ (a' := ?_) ?_ ?_
        rotate_left
        · show Act.put _ (some 30) _ = _
          simp only [Act.put, List.setIfInBounds_toArray, List.set_cons_zero, List.set_cons_succ, i64_w, i32_w]
          rfl
        obtain ⟨g, cap, rfl, hq1, hq2, hq3⟩ := Kd.R_form HO.out (by have := HYL.out; omega)
        have HG1 := Aside0.mk hq1
        clear hq1 hq2 hq3
        refine one_ (i := 6) (N := some 31) #[true, true, true, true, true, true, true, false, false] rfl rfl (by kernel_rfl) (by decide) (fun K hK => ?_)
        refine value_ (w1 := w4.alloc (.cells #[.slice (some ⟨g, 0, none⟩) y.length cap] 22)) (v := .slice (some ⟨w4.heap.size, 0, none⟩) 1 1) (by rfl) rfl ?_ ?_
        · first | (go_simp; done) | (go_simp; rfl)
        refine hK.out _ _ ⟨pw_cell_below (below_alloc (Below.refl _ _) _) hHeld.1, pw_cell_below (below_alloc (Below.refl _ _) _) hHeld.2⟩ (fun hHeld => ?_)
        clear hK K
        refine norm_ (a' := ?_) ?_ ?_
        rotate_left
        · show Act.put _ (some 31) _ = _
          simp only [Act.put, List.setIfInBounds_toArray, List.set_cons_zero, List.set_cons_succ, i64_w, i32_w]
          rfl
        refine one_ (i := 7) (N := some 32) #[true, true, true, true, true, true, true, true, false] rfl rfl (by kernel_rfl) (by decide) (fun K hK => ?_)
        refine Kd.S_append_step (Kd.slice 3 (Kd.int .i64)) (w0 := W) base (by rfl) (.tmp 25) (.tmp 31) 50 22 (.slice none 0 0) 24 rfl Try.underlying50 impl_completes.infoS rfl (by decide) (by omega) (.slice Ao rows.length co) rows y [.slice (some ⟨g, 0, none⟩) y.length cap] (fun _ => True) (fun k_ => some k_ = (.slice (some ⟨g, 0, none⟩) y.length cap : Value).ownBlock) rfl rfl ?aP ?aK ?aF ?aO ?aB ?aS ?aL ?_
        case aP => exact Kd.M_row (Kd.R_tight rfl (Kd.R_lower HO.out HBA.out))
        case aK => exact fun k_ hk_ => ⟨trivial, fun e_ => by have h1_ := Kd.S_lt HSS.out k_ e_.symm; have h2_ : k_ = g := (by simpa [Value.ownBlock] using hk_); have := HG1.out; omega⟩
        case aF => exact fun _ _ => trivial
        case aO => exact Kd.S_mono (Kd.S_old HSS.out HB.out) (fun k_ hk_ => ⟨trivial, fun e_ => by have h2_ : k_ = g := (by simpa [Value.ownBlock] using e_); have := HG1.out; have := hk_.2; omega⟩)
        case aB => exact HB.out.mono HBA.out
        case aS => exact Nat.le_trans HBA.out (below_size HB.out)
        case aL => have := HRL.out; simp at this; omega
        intro v3 w5 ho hb hg hat
        have HF5 := Aside0.mk (impl_completes.Fr.trans (impl_completes.Fr.of_below HB.out HBA.out) (impl_completes.Fr.grown (Kd.S_below HSS.out HB.out) (((Below.refl base w4).grown hg (Nat.le_trans HBA.out (below_size HB.out)) (Kd.S_base HSS.out))) hg))
        have HBK5 := Aside0.mk (blk_grown (blk_below HBK.out HB.out) hg (Kd.S_ne HSS.out HBK.out (by decide)))
        have HS5 := Aside0.mk ho
        refine hK.out _ _ ⟨(blk_cell HBK5.out 0).trans rfl, (blk_cell (HBX.out.move HF5.out).2.1 0).trans rfl⟩ (fun hHeld => ?_)
        clear hK K ho hb hg hat
        refine norm_ (a' := ?_) ?_ ?_
        rotate_left
        · show Act.put _ (some 32) _ = _
          simp only [Act.put, List.setIfInBounds_toArray, List.set_cons_zero, List.set_cons_succ, i64_w, i32_w]
          rfl
        obtain ⟨g3, cap3, rfl, hq1, hq2, hq3⟩ := Kd.S_form HS5.out (by simp)
        clear hq1 hq2 hq3
        refine last_ (i := 8) (N := none) #[true, true, true, true, true, true, true, true, true] rfl rfl (by kernel_rfl) (by decide) (fun K hK => ?_)
        have hs8 : w5.cell? ⟨bo, 0, none⟩ = some (.slice Ao rows.length co) := (blk_cell HBK5.out 0).trans rfl
        have hf8 := blk_frozen HBK5.out 0
        refine skip_ (w1 := w5.setCell ⟨bo, 0, none⟩ (.slice (some ⟨g3, 0, none⟩) (rows ++ [y]).length cap3)) (by rfl) rfl ?_ ?_
        · first | (go_simp; done) | (go_simp; rfl)
        refine hK.out _ _ ?_
        clear hK K hs8 hf8
        refine done_ (by kernel_rfl) ?_
        try go_wp2
        refine bodyPost_ret (v := .tuple #[]) ?_ rfl ⟨rfl, HF5.out.trans (impl_completes.Fr.set HBK5.out hbo _), _, ?_, Kd.S_set HS5.out HBK5.out (by decide) 0 _⟩
        · exact results_none rfl _ _ _
        · rw [heap_setCell_same _ _ _ _ _ _ HBK5.out]; simp
      refine two_ (i := 2) (j := 4) (Ni := some 27) (Nj := some 29) #[true, true, true, true, false, false, false, false, false] #[true, true, false, true, true, false, false, false, false] rfl rfl rfl rfl (by kernel_rfl) (by decide) (by decide) (fun K hK => ?_) (fun K hK => ?_)
      · refine goes_ Try.func74 (by kernel_rfl) rfl #[.slice A l.length c] (by rfl) rfl rfl (by (try simp only [List.map_toArray, List.map_cons, List.map_nil]); first | done | rfl | (simp only [List.length_drop, List.length_take]; rfl)) ?_
        refine (HK.out _ (by repeat (first | (with_reducible first | exact HB.out | apply below_alloc | apply pw_below_drewN | apply below_drew1) | exact HB.out))).mono ?_
        rintro e_ w2 ⟨v1, rfl, ho, hb⟩
        refine ⟨_, rfl, ?_⟩
        have n0_ := Aside0.mk (Kd.R_lower ho (below_size (by repeat (first | (with_reducible first | exact HB.out | apply below_alloc | apply pw_below_drewN | apply below_drew1) | exact HB.out))))
        have n1_ := Aside0.mk (below_step (by repeat (first | (with_reducible first | exact HB.out | apply below_alloc | apply pw_below_drewN | apply below_drew1) | exact HB.out)) hb)
        refine hK.out _ _ ⟨pw_cell_below hb hHeld.1, pw_cell_below hb hHeld.2⟩ (fun hHeld => ?_)
        clear HB hK K hb ho
        have HC_ := n0_
        have HB := n1_
        clear n0_ n1_
        refine norm_ (a' := ?_) ?_ ?_
        rotate_left
        · show Act.put _ (some 27) _ = _
          simp only [Act.put, List.setIfInBounds_toArray, List.set_cons_zero, List.set_cons_succ, i64_w, i32_w]
          rfl
        refine one_ (i := 4) (N := some 29) #[true, true, true, true, true, false, false, false, false] rfl rfl (by kernel_rfl) (by decide) (fun K hK => ?_)
        refine value_ (w1 := w2.alloc (.cells #[.int .i64 e] 3)) (v := .slice (some ⟨w2.heap.size, 0, none⟩) 1 1) (by rfl) rfl ?_ ?_
        · first | (go_simp; done) | (go_simp; rfl)
        refine hK.out _ _ ⟨pw_cell_below (below_alloc (Below.refl _ _) _) hHeld.1, pw_cell_below (below_alloc (Below.refl _ _) _) hHeld.2⟩ (fun hHeld => ?_)
        clear hK K
        exact hcont ⟨v1, w2.heap.size⟩ _ ⟨hHeld, Kd.R_alloc HC_.out _, blk_new w2 _, below_alloc HB.out _⟩
      · refine value_ (w1 := w1.alloc (.cells #[.int .i64 e] 3)) (v := .slice (some ⟨w1.heap.size, 0, none⟩) 1 1) (by rfl) rfl ?_ ?_
        · first | (go_simp; done) | (go_simp; rfl)
        refine hK.out _ _ ⟨pw_cell_below (below_alloc (Below.refl _ _) _) hHeld.1, pw_cell_below (below_alloc (Below.refl _ _) _) hHeld.2⟩ (fun hHeld => ?_)
        clear hK K
        refine norm_ (a' := ?_) ?_ ?_
        rotate_left
        · show Act.put _ (some 29) _ = _
          simp only [Act.put, List.setIfInBounds_toArray, List.set_cons_zero, List.set_cons_succ, i64_w, i32_w]
          rfl
        refine one_ (i := 2) (N := some 27) #[true, true, true, true, true, false, false, false, false] rfl rfl (by kernel_rfl) (by decide) (fun K hK => ?_)
        refine goes_ Try.func74 (by kernel_rfl) rfl #[.slice A l.length c] (by rfl) rfl rfl (by (try simp only [List.map_toArray, List.map_cons, List.map_nil]); first | done | rfl | (simp only [List.length_drop, List.length_take]; rfl)) ?_
        refine (HK.out _ (by repeat (first | (with_reducible first | exact HB.out | apply below_alloc | apply pw_below_drewN | apply below_drew1) | exact HB.out))).mono ?_
        rintro e_ w2 ⟨v1, rfl, ho, hb⟩
        refine ⟨_, rfl, ?_⟩
        refine hK.out _ _ ⟨pw_cell_below hb hHeld.1, pw_cell_below hb hHeld.2⟩ (fun hHeld => ?_)
        clear hK K
        exact hcont ⟨v1, w1.heap.size⟩ _ ⟨hHeld, Kd.R_lower ho (below_alloc HB.out (.cells #[.int .i64 e] 3)).size, blk_below (blk_new w1 _) hb, below_step (below_alloc HB.out _) hb⟩
    · rw [if_neg hq] at h2
      obtain rfl := Option.some.inj h2
      have hqb : (told' == alls) = false := by simp [hq]
      clear h2 hq
      go_enter Try.func84, Try.ntmps84
      try go_wp2_with (go_at_call 85; refine (HD.out _ (Below.refl _ _)).mono ?_; rintro e_ w1 ⟨rfl, q_, rfl⟩)
      refine bodyPost_ret (v := .tuple #[]) ?_ rfl ⟨rfl, impl_completes.Fr.of_below (pw_below_drewN (Below.refl _ _) q_) HBA.out, _, HBK.out, ?_⟩
      · exact results_none rfl _ _ _
      · rw [List.append_nil]; exact Kd.S_drewN HSS.out _
  | succ d ih =>
    intro l told res rows A c vo W hput hlen hbox hbk hS hbase hR hrl
    rw [impl_completes.put] at hput
    have hll : 0 < l.length ∧ l.length ≤ 1000 := by
      apply Classical.byContradiction; intro hn; rw [if_neg hn] at hput; cases hput
    rw [if_pos hll] at hput
    obtain ⟨n, hn1, h2⟩ := Option.bind_eq_some_iff.1 hput
    have HOC := Aside0.mk (fun w1 => bits_OnesCount64.calls told n w1 hn1)
    have HLEN := Aside0.mk hll
    have HBX := Aside0.mk hbox
    have HBK := Aside0.mk hbk
    have HSS := Aside0.mk hS
    have HRR := Aside0.mk hR
    have HRL := Aside0.mk hrl
    have HBA := Aside0.mk hbase
    have HM := Aside0.mk hlen
    have HIE := Aside0.mk hie
    have hc1 := (blk_cell hbox.1 0).trans rfl
    obtain ⟨iq, hiq, hqb, hiv⟩ : ∃ iq : Int, wrap64 (inner + 1) = iq ∧ ((l.length : Int) == iq) = false ∧ iq = (l.length : Int) + (d + 1) := ⟨inner + 1, by unfold wrap64; omega, by rw [beq_eq_false_iff_ne]; omega, by omega⟩
    have HIV := Aside0.mk hiv
    obtain ⟨R, hRm⟩ : ∃ R : Int, impl_completes.roomF (d + 2) (l.length : Int) 0 = R := ⟨_, rfl⟩
    rw [hRm] at h2
    have HROOM := Aside0.mk hRm
    have H2 := Aside0.mk h2
    clear hput hn1 hbox hbk hS hR hlen hrl hbase hiv hRm h2 hll
    go_enter Try.func84, Try.ntmps84
    try go_wp2_with fail
    go_loopg [9, 10] (d + 2) (fun gg v9 v10 wr => ∃ (i : Nat) (acc : Int), i ≤ d + 2 ∧ d + 2 - i ≤ gg ∧ v9 = .int .i64 acc ∧ v10 = .int .i64 ((l.length : Int) + (i : Int)) ∧ Aside0 (impl_completes.roomF (d + 2 - i) ((l.length : Int) + (i : Int)) acc = R) ∧ Aside0 (Below W.heap.size W wr))
    case atStart => exact ⟨0, 0, Nat.zero_le _, by omega, rfl, by first | rfl | (simp; done), ⟨by first | exact HROOM.out | (have := HROOM.out; simpa using this)⟩, ⟨Below.refl _ _⟩⟩
    case round =>
      clear hc1 HROOM
      obtain ⟨i, acc, hin, hgg, rfl, rfl, HA, HB⟩ := hrel
      have hc1 := pw_cell_below HB.out ((blk_cell HBX.out.1 0).trans rfl)
      obtain ⟨m, hm⟩ : ∃ m : Int, (l.length : Int) + (i : Int) = m := ⟨_, rfl⟩
      rw [hm] at HA ⊢
      by_cases hlt : i < d + 2
      · have hlb : decide (m ≤ iq) = true := decide_eq_true (by have := HIV.out; omega)
        have hmb : wrap64 (m + 1) = m + 1 := by have := HLEN.out; have := HIV.out; have := HIE.out; have := HM.out; unfold wrap64; omega
        have HMI := Aside0.mk hm
        have h1 := HA.out
        rw [show d + 2 - i = (d + 2 - (i + 1)) + 1 by omega, impl_completes.roomF] at h1
        have H1 := Aside0.mk h1
        clear h1 HA hm
        go_wp2
        go_roundg (d + 2 - (i + 1))
        case measure => omega
        case rel => exact ⟨i + 1, wrap64 (acc + m), by omega, by omega, by first | rfl | go_num, by have := HMI.out; rw [show ((l.length : Int) + ((i + 1 : Nat) : Int)) = m + 1 by omega]; first | rfl | rw [hmb] | go_num, ⟨by have := HMI.out; rw [show ((l.length : Int) + ((i + 1 : Nat) : Int)) = m + 1 by omega]; exact H1.out⟩, HB⟩
      · have hlb : decide (m ≤ iq) = false := decide_eq_false (by have := HIV.out; omega)
        have h1 := HA.out
        rw [show d + 2 - i = 0 by omega, impl_completes.roomF] at h1
        subst h1
        clear HA
        try go_wp2_with fail
        have HCE := Aside0.mk (show wr.cell? ⟨bl, 0, none⟩ = some (.int .i64 e) from pw_cell_below HB.out ((blk_cell HBX.out.2.1 0).trans rfl))
        refine start_ (n := 6) (S := fun w' => w'.cell? ⟨bl, 0, none⟩ = some (.int .i64 e)) (ds := []) #[false, false, false, false, false, false] (by kernel_rfl) rfl rfl HCE.out (fun hHeld => ?_)
        replace HB := Aside0.mk (below_drew1 HB.out)
        generalize World.drew _ = w1 at HB hHeld ⊢
        refine pure_ (i := 0) (N := some 44) (v := ?_) (a' := ?_) #[true, false, false, false, false, false] rfl rfl (by kernel_rfl) (fun _ _ _ h => h) (Or.inl ⟨by rfl, ?_⟩) ?_ ?_
        rotate_left
        · intro w'
          go_simp
          with_reducible rfl
        rotate_left
        · simp only [Act.put, List.setIfInBounds_toArray, List.set_cons_zero, List.set_cons_succ, i64_w, i32_w]
          rfl
        refine pure_ (i := 2) (N := some 46) (v := ?_) (a' := ?_) #[true, false, true, false, false, false] rfl rfl (by kernel_rfl) (fun _ _ _ h => h) (Or.inl ⟨by rfl, ?_⟩) ?_ ?_
        rotate_left
        · intro w'
          go_simp
          with_reducible rfl
        rotate_left
        · simp only [Act.put, List.setIfInBounds_toArray, List.set_cons_zero, List.set_cons_succ, i64_w, i32_w]
          rfl
        refine take_ (i := 4) (N := some 48) (v := ?_) (a' := ?_) #[true, false, true, false, true, false] rfl rfl (by kernel_rfl) (fun _ _ _ h => h) (Or.inl ⟨by rfl, ?_⟩) hHeld ?_ ?_
        rotate_left
        · rintro w' s0
          go_simp
          with_reducible rfl
        rotate_left
        · simp only [Act.put, List.setIfInBounds_toArray, List.set_cons_zero, List.set_cons_succ, i64_w, i32_w]
          rfl
        refine one_ (i := 1) (N := some 45) #[true, true, true, false, true, false] rfl rfl (by kernel_rfl) (by decide) (fun K hK => ?_)
        refine goes_ Try.func86 (by kernel_rfl) rfl #[.int .u64 told] (by rfl) rfl rfl (by (try simp only [List.map_toArray, List.map_cons, List.map_nil]); first | done | rfl | (simp only [List.length_drop, List.length_take]; rfl)) ?_
        refine (HOC.out _).mono ?_
        rintro e_ w2 ⟨rfl, q_, rfl⟩
        refine ⟨_, rfl, ?_⟩
        refine hK.out _ _ hHeld (fun hHeld => ?_)
        clear hK K
        replace HB := Aside0.mk (pw_below_drewN HB.out q_)
        generalize w1.drewN q_ = w1 at HB hHeld ⊢
        refine norm_ (a' := ?_) ?_ ?_
        rotate_left
        · show Act.put _ (some 45) _ = _
          simp only [Act.put, List.setIfInBounds_toArray, List.set_cons_zero, List.set_cons_succ, i64_w, i32_w]
          rfl
        refine pure_ (i := 3) (N := some 47) (v := ?_) (a' := ?_) #[true, true, true, true, true, false] rfl rfl (by kernel_rfl) (fun _ _ _ h => h) (Or.inl ⟨by rfl, ?_⟩) ?_ ?_
        rotate_left
        · intro w'
          go_simp
          with_reducible rfl
        rotate_left
        · simp only [Act.put, List.setIfInBounds_toArray, List.set_cons_zero, List.set_cons_succ, i64_w, i32_w]
          rfl
        refine pure_ (i := 5) (N := some 49) (v := ?_) (a' := ?_) #[true, true, true, true, true, true] rfl rfl (by kernel_rfl) (fun _ _ _ h => h) (Or.inl ⟨by rfl, ?_⟩) ?_ ?_
        rotate_left
        · intro w'
          go_simp
          with_reducible rfl
        rotate_left
        · simp only [Act.put, List.setIfInBounds_toArray, List.set_cons_zero, List.set_cons_succ, i64_w, i32_w]
          rfl
        refine done_ (by kernel_rfl) ?_
        by_cases hlt2 : wrap64 (n + acc) < e
        · have h2 := H2.out
          rw [if_pos hlt2] at h2
          obtain rfl := Option.some.inj h2
          rw [show decide (wrap64 (n + acc) < e) = true from decide_eq_true hlt2]
          clear h2 H2
          try go_wp2
          refine bodyPost_ret (v := .tuple #[]) ?_ rfl ⟨rfl, impl_completes.Fr.of_below HB.out HBA.out, _, blk_below HBK.out HB.out, ?_⟩
          · exact results_none rfl _ _ _
          · rw [List.append_nil]; exact Kd.S_below HSS.out HB.out
        · have h2 := H2.out
          rw [if_neg hlt2] at h2
          rw [show decide (wrap64 (n + acc) < e) = false from decide_eq_false hlt2]
          have htop : 0 ≤ impl_completes.top l ∧ impl_completes.top l ≤ 60 := by
            apply Classical.byContradiction; intro hn; rw [if_neg hn] at h2; cases h2
          rw [if_pos htop] at h2
          obtain ⟨i1, hi1⟩ : ∃ i1 : Int, wrap64 ((l.length : Int) - 1) = i1 := ⟨_, rfl⟩
          have hp1 : 0 ≤ i1 := by rw [← hi1]; have := HLEN.out; unfold wrap64; omega
          have hp2 : i1 < (l.length : Int) := by rw [← hi1]; have := HLEN.out; unfold wrap64; omega
          obtain ⟨ad1, e1, hx1⟩ := Kd.at_int (Kd.R_reads' HRR.out).2.2 i1 hp1 hp2
          cases e1
          obtain ⟨tp, htp⟩ : ∃ tp : Int, impl_completes.top l = tp := ⟨_, rfl⟩
          rw [htp] at htop h2
          have hrt : rd l i1 = tp := by rw [← htp, impl_completes.top, hi1]
          rw [hrt] at hx1
          have hx2 := pw_cell_below HB.out hx1
          have hwt : wrap64 (tp + 1) = tp + 1 := by unfold wrap64; omega
          have HT := Aside0.mk htop
          have HL := Aside0.mk h2
          obtain ⟨nn, hnn⟩ : ∃ nn : Nat, (e - (tp + 1)).toNat = nn := ⟨_, rfl⟩
          rw [hnn] at HL
          have HN := Aside0.mk hnn
          replace hp1 := eq_true hp1
          replace hp2 := eq_true hp2
          clear h2 htop htp hrt hx1 hnn H2 hlt2
          try go_wp2_with fail
          (try rw [hiq])
          (try rw [hi1])
          (try rw [hwt])
          go_loopg [11] nn (fun gg v11 wr => ∃ (i : Nat) (acc s : List (List Int)) (vo' : Value), i ≤ nn ∧ nn - i ≤ gg ∧ v11 = .int .i64 (tp + 1 + (i : Int)) ∧ Aside0 (impl_completes.loop k (impl_completes.put k e alls d) l told (nn - i) (tp + 1 + (i : Int)) = some s) ∧ Aside0 (rows ++ res = acc ++ s) ∧ Aside0 (impl_completes.Fr base W wr) ∧ Aside0 (wr.heap[bo]? = some (.cells #[vo'] 50 (0, 0))) ∧ Aside0 (Kd.S (Kd.slice 3 (Kd.int .i64)) 22 wr base (fun _ => True) vo' acc))
          case atStart => exact ⟨0, rows, res, vo, Nat.zero_le _, by omega, by first | rfl | (simp; done) | (rw [hwt]; simp) | (simp [hwt]; done), ⟨by first | exact HL.out | (have := HL.out; simpa using this)⟩, ⟨rfl⟩, ⟨impl_completes.Fr.of_below HB.out HBA.out⟩, ⟨blk_below HBK.out HB.out⟩, ⟨Kd.S_below HSS.out HB.out⟩⟩
          case round =>
            clear HB HL hx2 hc1 HBK HSS HCE hHeld
            obtain ⟨i, acc2, s, vo', hin2, hgg2, rfl, HA, HE, HF, HBK, HSS⟩ := hrel
            have hc2 := (blk_cell (HBX.out.move HF.out).2.1 0).trans rfl
            obtain ⟨m, hm⟩ : ∃ m : Int, tp + 1 + (i : Int) = m := ⟨_, rfl⟩
            rw [hm] at HA ⊢
            by_cases hlt : m < e
            · have hnn : i < nn := by have := HN.out; omega
              have h1 := HA.out
              rw [show nn - i = (nn - (i + 1)) + 1 by omega, impl_completes.loop] at h1
              obtain ⟨b, hb1, h3⟩ := Option.bind_eq_some_iff.1 h1
              obtain ⟨r1, hr1, h4⟩ := Option.bind_eq_some_iff.1 h3
              obtain ⟨s1, hs1, h5⟩ := Option.bind_eq_some_iff.1 h4
              obtain rfl := Option.some.inj h5
              have H3 := Aside0.mk hs1
              have hmb : wrap64 (m + 1) = m + 1 := by have := HT.out; have := HN.out; have := HIE.out; unfold wrap64; omega
              have hlb : decide (m < e) = true := decide_eq_true hlt
              have HRW := Kd.R_reads' (HF.out.row HRR.out)
              have HD := Aside0.mk (fun (w1 : World) (hb : Below wr.heap.size wr w1) => impl_differences.calls k (some ad1) c l m b w1 (Kd.C_below HRW.2.2 hb) HRW.2.1 hb1)
              have HK := Aside0.mk (impl_completes.clone c HRW.2.2 HRW.2.1 HLEN.out.1 HLEN.out.2)
              have HBW := Aside0.mk (Nat.le_trans HBA.out HF.out.1.size)
              obtain ⟨y, hy⟩ : ∃ y_ : List Int, y_ = l ++ [m] := ⟨_, rfl⟩
              rw [← hy] at hr1
              have hyl : y.length = l.length + 1 := by rw [hy]; simp
              have Ny := Aside0.mk hy
              have HYL := Aside0.mk hyl
              have HI := Aside0.mk (fun (W4 : World) (g' c' : Nat) (hf4 : impl_completes.Fr wr.heap.size wr W4) (hr4 : Kd.R (Kd.int .i64) 3 W4 base (fun _ => True) (.slice (some ⟨g', 0, none⟩) y.length c') y) => ih y (Go.bits .or .u64 told b) r1 acc2 (some ⟨g', 0, none⟩) c' vo' W4 hr1 (by have := HM.out; omega) ((HBX.out.move HF.out).move hf4) (blk_below HBK.out hf4.1) (Kd.S_below HSS.out hf4.1) (Nat.le_trans HBW.out hf4.1.size) hr4 (by have h6 := congrArg List.length HE.out; simp only [List.length_append] at h6; have := HRL.out; omega))
              have HMI := Aside0.mk hm
              have HCE := Aside0.mk (show wr.cell? ⟨bp, 0, none⟩ = some (.func (.func 84) #[] #[.pointer (some ⟨bi, 0, none⟩), .pointer (some ⟨bl, 0, none⟩), .pointer (some ⟨ba, 0, none⟩), .pointer (some ⟨bo, 0, none⟩), .pointer (some ⟨bp, 0, none⟩)]) from (blk_cell (HBX.out.move HF.out).2.2.2 0).trans rfl)
              have HLT := Aside0.mk (show bp < wr.heap.size from blk_lt (HBX.out.move HF.out).2.2.2)
              have HB := Aside0.mk (Below.refl wr.heap.size wr)
              clear h1 h3 h4 h5 hs1 hb1 hr1 hy hyl hm HA HRW
              try go_wp2_with fail
              refine start_ (n := 12) (S := fun w' => w'.cell? ⟨bp, 0, none⟩ = some (.func (.func 84) #[] #[.pointer (some ⟨bi, 0, none⟩), .pointer (some ⟨bl, 0, none⟩), .pointer (some ⟨ba, 0, none⟩), .pointer (some ⟨bo, 0, none⟩), .pointer (some ⟨bp, 0, none⟩)])) (ds := []) #[false, false, false, false, false, false, false, false, false, false, false, false] (by kernel_rfl) rfl rfl HCE.out (fun hHeld => ?_)
              replace HB := Aside0.mk (below_drew1 HB.out)
              generalize World.drew _ = w1 at HB hHeld ⊢
              refine take_ (i := 0) (N := some 62) (v := ?_) (a' := ?_) #[true, false, false, false, false, false, false, false, false, false, false, false] rfl rfl (by kernel_rfl) (fun _ _ _ h => h) (Or.inl ⟨by rfl, ?_⟩) hHeld ?_ ?_
              rotate_left
              · rintro w' s0
                go_simp
                with_reducible rfl
              rotate_left
              · simp only [Act.put, List.setIfInBounds_toArray, List.set_cons_zero, List.set_cons_succ, i64_w, i32_w]
                rfl
              refine pure_ (i := 1) (N := some 63) (v := ?_) (a' := ?_) #[true, true, false, false, false, false, false, false, false, false, false, false] rfl rfl (by kernel_rfl) (fun _ _ _ h => h) (Or.inl ⟨by rfl, ?_⟩) ?_ ?_
              rotate_left
              · intro w'
                go_simp
                with_reducible rfl
              rotate_left
              · simp only [Act.put, List.setIfInBounds_toArray, List.set_cons_zero, List.set_cons_succ, i64_w, i32_w]
                rfl
              refine pure_ (i := 3) (N := some 65) (v := ?_) (a' := ?_) #[true, true, false, true, false, false, false, false, false, false, false, false] rfl rfl (by kernel_rfl) (fun _ _ _ h => h) (Or.inl ⟨by rfl, ?_⟩) ?_ ?_
              rotate_left
              · intro w'
                go_simp
                with_reducible rfl
              rotate_left
              · simp only [Act.put, List.setIfInBounds_toArray, List.set_cons_zero, List.set_cons_succ, i64_w, i32_w]
                rfl
              refine pure_ (i := 6) (N := some 68) (v := ?_) (a' := ?_) #[true, true, false, true, false, false, true, false, false, false, false, false] rfl rfl (by kernel_rfl) (fun _ _ _ h => h) (Or.inl ⟨by rfl, ?_⟩) ?_ ?_
              rotate_left
              · intro w'
                go_simp
                with_reducible rfl
              rotate_left
              · simp only [Act.put, List.setIfInBounds_toArray, List.set_cons_zero, List.set_cons_succ, i64_w, i32_w]
                rfl
              refine pure_ (i := 7) (N := some 69) (v := ?_) (a' := ?_) #[true, true, false, true, false, false, true, true, false, false, false, false] rfl rfl (by kernel_rfl) (fun _ _ _ h => h) (Or.inl ⟨by rfl, ?_⟩) ?_ ?_
              rotate_left
              · intro w'
                go_simp
                with_reducible rfl
              rotate_left
              · simp only [Act.put, List.setIfInBounds_toArray, List.set_cons_zero, List.set_cons_succ, i64_w, i32_w]
                rfl
              refine pure_ (i := 8) (N := some 70) (v := ?_) (a' := ?_) #[true, true, false, true, false, false, true, true, true, false, false, false] rfl rfl (by kernel_rfl) (fun _ _ _ h => h) (Or.inl ⟨by rfl, ?_⟩) ?_ ?_
              rotate_left
              · intro w'
                go_simp
                with_reducible rfl
              rotate_left
              · simp only [Act.put, List.setIfInBounds_toArray, List.set_cons_zero, List.set_cons_succ, i64_w, i32_w]
                rfl
              refine join_ (σ := Value × Nat) 4 #[true, true, true, true, true, false, true, true, true, false, false, false] (fun s => [(64, s.1), (66, .slice (some ⟨s.2, 0, none⟩) 1 1)]) (fun s w' => (w'.cell? ⟨bp, 0, none⟩ = some (.func (.func 84) #[] #[.pointer (some ⟨bi, 0, none⟩), .pointer (some ⟨bl, 0, none⟩), .pointer (some ⟨ba, 0, none⟩), .pointer (some ⟨bo, 0, none⟩), .pointer (some ⟨bp, 0, none⟩)])) ∧ Kd.R (Kd.int .i64) 3 w' wr.heap.size (fun _ => True) s.1 l ∧ w'.heap[s.2]? = some (.cells #[.int .i64 m] 3 (0, 0)) ∧ Below wr.heap.size wr w') ?hcont (fun hcont => ?_)
              case hcont =>
                rintro ⟨v1, gv⟩ wj ⟨hHeld, hc_, hg_, hb_⟩
                replace HB := Aside0.mk hb_
                have HC_ := Aside0.mk hc_
                have HG_ := Aside0.mk hg_
                clear hb_ hc_ hg_
                refine norm_ (a' := ?_) ?_ ?_
                rotate_left
                · simp only [putAll, Act.put, List.setIfInBounds_toArray, List.set_cons_zero, List.set_cons_succ]
                  rfl
                refine one_ (i := 5) (N := some 67) #[true, true, true, true, true, true, true, true, true, false, false, false] rfl rfl (by kernel_rfl) (by decide) (fun K hK => ?_)
                refine impl_completes.step_append wr.heap.size gv (by rfl) (.tmp 64) (.tmp 66) rfl v1 l m rfl rfl HG_.out HC_.out HB.out (below_size HB.out) HLEN.out.2 ?_
                intro v2 w4 ho hb hk_
                rw [← Ny.out] at ho
                replace HB := Aside0.mk hb
                have HO := Aside0.mk ho
                refine hK.out _ _ (hk_ _ _ HLT.out hHeld) (fun hHeld => ?_)
                clear hK K ho hb hk_ HC_ HG_
                refine norm_ (a' := ?_) ?_ ?_
                rotate_left
                · show Act.put _ (some 67) _ = _
                  simp only [Act.put, List.setIfInBounds_toArray, List.set_cons_zero, List.set_cons_succ, i64_w, i32_w]
                  rfl
                obtain ⟨g, cap, rfl, hq1, hq2, hq3⟩ := Kd.R_form HO.out (by have := HYL.out; omega)
                clear hq1 hq2 hq3
                refine one_ (i := 9) (N := some 71) #[true, true, true, true, true, true, true, true, true, true, false, false] rfl rfl (by kernel_rfl) (by decide) (fun K hK => ?_)
                refine goes_ Try.func85 (by kernel_rfl) rfl #[.slice (some ad1) l.length c, .int .i64 m] (by rfl) rfl rfl (by (try simp only [List.map_toArray, List.map_cons, List.map_nil]); first | done | rfl | (simp only [List.length_drop, List.length_take]; rfl)) ?_
                refine (HD.out _ HB.out).mono ?_
                rintro e_ w2 ⟨rfl, q_, rfl⟩
                refine ⟨_, rfl, ?_⟩
                refine hK.out _ _ hHeld (fun hHeld => ?_)
                clear hK K
                replace HB := Aside0.mk (pw_below_drewN HB.out q_)
                replace HO := Aside0.mk (Kd.R_drewN HO.out q_)
                generalize w4.drewN q_ = w5 at HB HO hHeld ⊢
                refine norm_ (a' := ?_) ?_ ?_
                rotate_left
                · show Act.put _ (some 71) _ = _
                  simp only [Act.put, List.setIfInBounds_toArray, List.set_cons_zero, List.set_cons_succ, i64_w, i32_w]
                  rfl
                refine pure_ (i := 10) (N := some 72) (v := ?_) (a' := ?_) #[true, true, true, true, true, true, true, true, true, true, true, false] rfl rfl (by kernel_rfl) (fun _ _ _ h => h) (Or.inl ⟨by rfl, ?_⟩) ?_ ?_
                rotate_left
                · intro w'
                  go_simp
                  with_reducible rfl
                rotate_left
                · simp only [Act.put, List.setIfInBounds_toArray, List.set_cons_zero, List.set_cons_succ, i64_w, i32_w]
                  rfl
                refine one_ (i := 11) (N := some 73) #[true, true, true, true, true, true, true, true, true, true, true, true] rfl rfl (by kernel_rfl) (by decide) (fun K hK => ?_)
                refine call_ 84 #[.slice (some ⟨g, 0, none⟩) y.length cap, .int .u64 (Go.bits .or .u64 told b), .pointer (some ⟨bi, 0, none⟩), .pointer (some ⟨bl, 0, none⟩), .pointer (some ⟨ba, 0, none⟩), .pointer (some ⟨bo, 0, none⟩), .pointer (some ⟨bp, 0, none⟩)] (by rfl) rfl ?hrun ?_
                case hrun =>
                  unfold execOp
                  simp [resolve, Deferred.ofValue, invoke, Act.eval, impl_completes.enters]
                refine (HI.out w5 g cap (impl_completes.Fr.of_below HB.out (Nat.le_refl _)) (Kd.R_lower HO.out HBW.out)).mono ?_
                rintro e_ w6 ⟨rfl, hfr, vo2, hbk2, hS2⟩
                refine ⟨_, rfl, ?_⟩
                have HF6 := Aside0.mk (HF.out.trans ((impl_completes.Fr.of_below HB.out HBW.out).trans hfr))
                refine hK.out _ _ ((blk_cell (HBX.out.move HF6.out).2.2.2 0).trans rfl) (fun hHeld => ?_)
                have HBK6 := Aside0.mk hbk2
                have HS6 := Aside0.mk hS2
                clear hK K hfr hbk2 hS2 HO HB HF HBK HSS
                refine norm_ (a' := ?_) ?_ ?_
                rotate_left
                · show Act.put _ (some 73) _ = _
                  simp only [Act.put, List.setIfInBounds_toArray, List.set_cons_zero, List.set_cons_succ, i64_w, i32_w]
                  rfl
                refine done_ (by kernel_rfl) ?_
                clear hHeld
                try go_wp2
                go_roundg (nn - (i + 1))
                case measure => omega
                case rel => exact ⟨i + 1, acc2 ++ r1, s1, vo2, by omega, by omega, by have := HMI.out; rw [show (tp + 1 + ((i + 1 : Nat) : Int)) = m + 1 by omega]; first | rfl | rw [hmb] | go_num, ⟨by have := HMI.out; rw [show (tp + 1 + ((i + 1 : Nat) : Int)) = m + 1 by omega]; exact H3.out⟩, ⟨by have := HE.out; rw [List.append_assoc]; exact this⟩, HF6, HBK6, HS6⟩
              refine two_ (i := 2) (j := 4) (Ni := some 64) (Nj := some 66) #[true, true, true, true, false, false, true, true, true, false, false, false] #[true, true, false, true, true, false, true, true, true, false, false, false] rfl rfl rfl rfl (by kernel_rfl) (by decide) (by decide) (fun K hK => ?_) (fun K hK => ?_)
              · refine goes_ Try.func74 (by kernel_rfl) rfl #[.slice (some ad1) l.length c] (by rfl) rfl rfl (by (try simp only [List.map_toArray, List.map_cons, List.map_nil]); first | done | rfl | (simp only [List.length_drop, List.length_take]; rfl)) ?_
                refine (HK.out _ (by repeat (first | (with_reducible first | exact HB.out | apply below_alloc | apply pw_below_drewN | apply below_drew1) | exact HB.out))).mono ?_
                rintro e_ w2 ⟨v1, rfl, ho, hb⟩
                refine ⟨_, rfl, ?_⟩
                have n0_ := Aside0.mk (Kd.R_lower ho (below_size (by repeat (first | (with_reducible first | exact HB.out | apply below_alloc | apply pw_below_drewN | apply below_drew1) | exact HB.out))))
                have n1_ := Aside0.mk (below_step (by repeat (first | (with_reducible first | exact HB.out | apply below_alloc | apply pw_below_drewN | apply below_drew1) | exact HB.out)) hb)
                refine hK.out _ _ (pw_cell_below hb hHeld) (fun hHeld => ?_)
                clear HB hK K hb ho
                have HC_ := n0_
                have HB := n1_
                clear n0_ n1_
                refine norm_ (a' := ?_) ?_ ?_
                rotate_left
                · show Act.put _ (some 64) _ = _
                  simp only [Act.put, List.setIfInBounds_toArray, List.set_cons_zero, List.set_cons_succ, i64_w, i32_w]
                  rfl
                refine one_ (i := 4) (N := some 66) #[true, true, true, true, true, false, true, true, true, false, false, false] rfl rfl (by kernel_rfl) (by decide) (fun K hK => ?_)
                refine value_ (w1 := w2.alloc (.cells #[.int .i64 m] 3)) (v := .slice (some ⟨w2.heap.size, 0, none⟩) 1 1) (by rfl) rfl ?_ ?_
                · first | (go_simp; done) | (go_simp; rfl)
                refine hK.out _ _ (pw_cell_below (below_alloc (Below.refl _ _) _) hHeld) (fun hHeld => ?_)
                clear hK K
                exact hcont ⟨v1, w2.heap.size⟩ _ ⟨hHeld, Kd.R_alloc HC_.out _, blk_new w2 _, below_alloc HB.out _⟩
              · refine value_ (w1 := w1.alloc (.cells #[.int .i64 m] 3)) (v := .slice (some ⟨w1.heap.size, 0, none⟩) 1 1) (by rfl) rfl ?_ ?_
                · first | (go_simp; done) | (go_simp; rfl)
                refine hK.out _ _ (pw_cell_below (below_alloc (Below.refl _ _) _) hHeld) (fun hHeld => ?_)
                clear hK K
                refine norm_ (a' := ?_) ?_ ?_
                rotate_left
                · show Act.put _ (some 66) _ = _
                  simp only [Act.put, List.setIfInBounds_toArray, List.set_cons_zero, List.set_cons_succ, i64_w, i32_w]
                  rfl
                refine one_ (i := 2) (N := some 64) #[true, true, true, true, true, false, true, true, true, false, false, false] rfl rfl (by kernel_rfl) (by decide) (fun K hK => ?_)
                refine goes_ Try.func74 (by kernel_rfl) rfl #[.slice (some ad1) l.length c] (by rfl) rfl rfl (by (try simp only [List.map_toArray, List.map_cons, List.map_nil]); first | done | rfl | (simp only [List.length_drop, List.length_take]; rfl)) ?_
                refine (HK.out _ (by repeat (first | (with_reducible first | exact HB.out | apply below_alloc | apply pw_below_drewN | apply below_drew1) | exact HB.out))).mono ?_
                rintro e_ w2 ⟨v1, rfl, ho, hb⟩
                refine ⟨_, rfl, ?_⟩
                refine hK.out _ _ (pw_cell_below hb hHeld) (fun hHeld => ?_)
                clear hK K
                exact hcont ⟨v1, w1.heap.size⟩ _ ⟨hHeld, Kd.R_lower ho (below_alloc HB.out (.cells #[.int .i64 m] 3)).size, blk_below (blk_new w1 _) hb, below_step (below_alloc HB.out _) hb⟩
            · have hnn : nn - i = 0 := by have := HN.out; omega
              have h1 := HA.out
              rw [hnn, impl_completes.loop] at h1
              obtain rfl := Option.some.inj h1
              have hlb : decide (m < e) = false := decide_eq_false hlt
              clear h1 HA
              try go_wp2
              go_end0
              refine ⟨rfl, HF.out, _, HBK.out, ?_⟩
              have := HE.out; rw [List.append_nil] at this; rw [this]; exact HSS.out
set_option maxRecDepth 100000 in
set_option maxHeartbeats 8000000 in
theorem impl_completes.calls (k : Nat) (a0 : Int) (r1 : List (List Int)) (r2 : Bool) (w : World) (h : impl_completes.f k a0 = some (r1, r2)) :
    Calls Try.prog 69 #[.int .i64 a0] w fun e w' => ∃ v0_ : Value, e = .returned (.tuple #[v0_, .bool r2]) ∧ Kd.S (Kd.slice 3 (Kd.int .i64)) 22 w' w.heap.size (fun _ => True) v0_ r1 ∧ Below w.heap.size w w' := by
  have hu := Try.underlying50
  have qs := fun (W : World) (o_ : Obj) (c_ : Array Value) => impl_completes.store_put2 W o_ c_
  obtain ⟨t, h1, h2⟩ := Option.bind_eq_some_iff.1 h
  clear h
  have HW := Aside0.mk (fun W => impl_within.calls a0 1 20 t W h1)
  clear h1
  cases t with
  | false =>
    obtain ⟨rfl, rfl⟩ : [] = r1 ∧ false = r2 := by simpa using h2
    clear h2
    go_enter Try.func69, Try.ntmps69
    go_wp2_with (go_at_call 80; refine (HW.out _).mono ?_; rintro e_ w1 ⟨rfl, q_, rfl⟩)
    go_ret2
    exact ⟨_, rfl, Kd.S_nil _ _ _ _ _, pw_below_drewN (below_alloc (Below.refl _ _) _) _⟩
  | true =>
    rw [if_pos rfl] at h2
    have ha : 1 ≤ a0 ∧ a0 ≤ 20 := by
      apply Classical.byContradiction; intro hn; rw [if_neg hn] at h2; cases h2
    rw [if_pos ha] at h2
    obtain ⟨rr, hrr, h3⟩ := Option.bind_eq_some_iff.1 h2
    obtain ⟨rfl, rfl⟩ := Prod.mk.inj (Option.some.inj h3)
    have HA0 := Aside0.mk ha
    have H2 := Aside0.mk hrr
    have hs0 : 0 ≤ a0 := by omega
    have hs1 : a0 ≤ 20 := by omega
    clear h2 h3 ha hrr
    go_enter Try.func69, Try.ntmps69
    go_wp2_with (go_at_call 80; refine (HW.out _).mono ?_; rintro e_ w1 ⟨rfl, q_, rfl⟩)
    go_loopg [5] k (fun kq v5 wr => ∃ (inner : Int) (bi : Nat), v5 = .pointer (some ⟨bi, 0, none⟩) ∧ Aside0 (0 ≤ inner) ∧ Aside0 (impl_completes.l0 k a0 (impl_completes.allF a0) kq inner = some rr) ∧ Aside0 (kq ≤ k) ∧ Aside0 (wr.heap[bi]? = some (.cells #[.int .i64 inner] 3 (0, 0))) ∧ Aside0 (wr.heap[w.heap.size]? = some (.cells #[.int .i64 a0] 3 (0, 0))) ∧ Aside0 (wr.heap[w.heap.size + 1]? = some (.cells #[.int .u64 (impl_completes.allF a0)] 58 (0, 0))) ∧ Aside0 (Below w.heap.size w wr))
    case atStart => exact ⟨0, _, rfl, ⟨Int.le_refl _⟩, H2, ⟨Nat.le_refl _⟩, ⟨by rw [show w.heap.size + 1 + 1 = (((w.alloc (.cells #[.int .i64 a0] 3)).drewN q_).alloc (.cells #[.int .u64 (impl_completes.allF a0)] 58)).heap.size from by rw [World.size_alloc]; show _ = (w.alloc _).heap.size + 1; rw [World.size_alloc]]; exact blk_new _ _⟩, ⟨blk_alloc (blk_alloc (blk_drewN (blk_new _ _) _) _) _⟩, ⟨by rw [show w.heap.size + 1 = ((w.alloc (.cells #[.int .i64 a0] 3)).drewN q_).heap.size from (World.size_alloc _ _).symm]; exact blk_alloc (blk_new _ _) _⟩, ⟨below_alloc (below_alloc (pw_below_drewN (below_alloc (Below.refl _ _) _) _) _) _⟩⟩
    case round =>
      clear H2
      obtain ⟨inner, bi, rfl, HIN, HL, HK, BKi, BKl, BKa, HB⟩ := hrel
      cases gk with
      | zero => exact absurd HL.out (by simp [impl_completes.l0])
      | succ k1 =>
        have h1 := HL.out
        rw [impl_completes.l0] at h1
        have he : inner ≤ 60 := by
          apply Classical.byContradiction; intro hn; rw [if_neg hn] at h1; cases h1
        rw [if_pos he] at h1
        obtain ⟨r, hr, h3⟩ := Option.bind_eq_some_iff.1 h1
        have hlr : r.length ≤ 1000000000000 := by
          apply Classical.byContradiction; intro hn; rw [if_neg hn] at h3; cases h3
        rw [if_pos hlr] at h3
        have HP := Aside0.mk hr
        have HRL := Aside0.mk hlr
        have hwe : wrap64 (inner + 1) = inner + 1 := by have := HIN.out; unfold wrap64; omega
        have HE6 := Aside0.mk he
        clear HL h1 hr he hlr
        obtain ⟨y, hy⟩ : ∃ y_ : List Int, y_ = ([0] : List Int) := ⟨_, rfl⟩
        have Ny := Aside0.mk hy
        rw [← hy] at HP
        clear hy
        by_cases hr0 : 0 < r.length
        · rw [if_pos hr0] at h3
          obtain rfl := Option.some.inj h3
          have hd1 : decide ((0 : Int) < (r.length : Int)) = true := decide_eq_true (by omega)
          have hd2 : decide (0 < r.length) = true := decide_eq_true hr0
          clear h3 hr0
          go_wp2_with (first | ((with_reducible refine gate_dst (N := 16) rfl ?_); refine Kd.S_lit (Kd.slice 3 (Kd.int .i64)) wr.heap.size 22 ?hg (N := 16) ?hd (xs := ([] : List (List Int))) (inner := []) (ok := fun _ => True) (okp := fun _ => True) ?hr ?hp (fun _ hk => hk) trivial (Below.refl _ _) (Nat.le_refl _) (by simp) ?_; (case hd => rfl); (case hg => rfl); (case hr => first | (go_simp; done) | (go_simp; rfl)); (case hp => exact (Reps.none _ _)); intro v8 w3 ho hb hg_ hnew_; clear hg_ hnew_; have HS3 := Aside0.mk ho; have HB3 := Aside0.mk hb; clear ho hb; obtain ⟨A8, c8, rfl⟩ := Kd.S_slice HS3.out) | ((with_reducible refine gate_dst (N := 19) rfl ?_); refine Kd.R_lit (Kd.int .i64) _ 3 ?hg (N := 19) ?hd (xs := ([0] : List Int)) (inner := [.int .i64 0]) (ok := fun _ => True) (okp := fun _ => True) ?hr ?hp (fun _ hk => hk) trivial (Below.refl _ _) (Nat.le_refl _) (by simp) ?_; (case hd => rfl); (case hg => rfl); (case hr => first | (go_simp; done) | (go_simp; rfl)); (case hp => exact (Reps.one (show Kd.M (Kd.int .i64) _ _ _ 0 [.int .i64 0] from rfl) (Reps.none _ _))); intro v9 w5 ho hb hg_ hnew_; clear hg_ hnew_; rw [← Ny.out] at ho; have HY := Aside0.mk ho; have HB5 := Aside0.mk hb; clear ho hb; obtain ⟨A9, c9, rfl⟩ := Kd.R_slice HY.out) | (go_at_call 84; have hb5 := below_step (below_alloc (below_alloc HB3.out _) _) HB5.out; refine (impl_completes.put_calls k inner a0 (impl_completes.allF a0) bi w.heap.size (w.heap.size + 1) w3.heap.size (w3.heap.size + 1) w.heap.size ⟨by have := HE6.out; omega, by have := HA0.out; omega⟩ (Nat.le_trans HB.out.size HB3.out.size) inner.toNat y 0 r [] A9 c9 _ w5 HP.out (by rw [Ny.out]; have := HIN.out; simp; omega) ⟨blk_below BKi.out hb5, blk_below BKl.out hb5, blk_below BKa.out hb5, blk_below (by rw [← World.size_alloc w3]; exact blk_new _ _) HB5.out⟩ (blk_below (blk_alloc (blk_new w3 _) _) HB5.out) (Kd.S_lower (Kd.S_below (Kd.S_alloc (Kd.S_alloc HS3.out _) _) HB5.out) HB.out.size) (Nat.le_trans HB.out.size hb5.size) (Kd.R_lower HY.out (by have h1 := HB.out.size; have h2 := HB3.out.size; rw [World.size_alloc, World.size_alloc]; omega)) (by have := HRL.out; simpa using this)).mono ?_; rintro e_ w6 ⟨rfl, hfr, vo, hbk, hs6⟩; rw [List.nil_append] at hs6; have n0_ := Aside0.mk (hfr.2 _ _ _ (by decide) (by decide) (blk_below BKi.out hb5)); have n1_ := Aside0.mk (hfr.2 _ _ _ (by decide) (by decide) (blk_below BKl.out hb5)); have n2_ := Aside0.mk (hfr.2 _ _ _ (by decide) (by decide) (blk_below BKa.out hb5)); have n3_ := Aside0.mk ((below_step HB.out hb5).trans hfr.1); obtain ⟨A6, c6, rfl⟩ := Kd.S_slice hs6; have HS6 := Aside0.mk hs6; have hco := (blk_cell hbk 0).trans rfl; clear HB BKi BKl BKa hs6 hfr hb5 hbk; have BKi := n0_; have BKl := n1_; have BKa := n2_; have HB := n3_; clear n0_ n1_ n2_ n3_; have hci := (blk_cell BKi.out 0).trans rfl; have hcf := blk_frozen BKi.out 0))
          go_ret2
          exact ⟨_, rfl, HS6.out, HB.out⟩
        · rw [if_neg hr0] at h3
          have H4 := Aside0.mk h3
          have hd1 : decide ((0 : Int) < (r.length : Int)) = false := decide_eq_false (by omega)
          have hd2 : decide (0 < r.length) = false := decide_eq_false hr0
          clear h3 hr0
          go_wp2_with (first | ((with_reducible refine gate_dst (N := 16) rfl ?_); refine Kd.S_lit (Kd.slice 3 (Kd.int .i64)) wr.heap.size 22 ?hg (N := 16) ?hd (xs := ([] : List (List Int))) (inner := []) (ok := fun _ => True) (okp := fun _ => True) ?hr ?hp (fun _ hk => hk) trivial (Below.refl _ _) (Nat.le_refl _) (by simp) ?_; (case hd => rfl); (case hg => rfl); (case hr => first | (go_simp; done) | (go_simp; rfl)); (case hp => exact (Reps.none _ _)); intro v8 w3 ho hb hg_ hnew_; clear hg_ hnew_; have HS3 := Aside0.mk ho; have HB3 := Aside0.mk hb; clear ho hb; obtain ⟨A8, c8, rfl⟩ := Kd.S_slice HS3.out) | ((with_reducible refine gate_dst (N := 19) rfl ?_); refine Kd.R_lit (Kd.int .i64) _ 3 ?hg (N := 19) ?hd (xs := ([0] : List Int)) (inner := [.int .i64 0]) (ok := fun _ => True) (okp := fun _ => True) ?hr ?hp (fun _ hk => hk) trivial (Below.refl _ _) (Nat.le_refl _) (by simp) ?_; (case hd => rfl); (case hg => rfl); (case hr => first | (go_simp; done) | (go_simp; rfl)); (case hp => exact (Reps.one (show Kd.M (Kd.int .i64) _ _ _ 0 [.int .i64 0] from rfl) (Reps.none _ _))); intro v9 w5 ho hb hg_ hnew_; clear hg_ hnew_; rw [← Ny.out] at ho; have HY := Aside0.mk ho; have HB5 := Aside0.mk hb; clear ho hb; obtain ⟨A9, c9, rfl⟩ := Kd.R_slice HY.out) | (go_at_call 84; have hb5 := below_step (below_alloc (below_alloc HB3.out _) _) HB5.out; refine (impl_completes.put_calls k inner a0 (impl_completes.allF a0) bi w.heap.size (w.heap.size + 1) w3.heap.size (w3.heap.size + 1) w.heap.size ⟨by have := HE6.out; omega, by have := HA0.out; omega⟩ (Nat.le_trans HB.out.size HB3.out.size) inner.toNat y 0 r [] A9 c9 _ w5 HP.out (by rw [Ny.out]; have := HIN.out; simp; omega) ⟨blk_below BKi.out hb5, blk_below BKl.out hb5, blk_below BKa.out hb5, blk_below (by rw [← World.size_alloc w3]; exact blk_new _ _) HB5.out⟩ (blk_below (blk_alloc (blk_new w3 _) _) HB5.out) (Kd.S_lower (Kd.S_below (Kd.S_alloc (Kd.S_alloc HS3.out _) _) HB5.out) HB.out.size) (Nat.le_trans HB.out.size hb5.size) (Kd.R_lower HY.out (by have h1 := HB.out.size; have h2 := HB3.out.size; rw [World.size_alloc, World.size_alloc]; omega)) (by have := HRL.out; simpa using this)).mono ?_; rintro e_ w6 ⟨rfl, hfr, vo, hbk, hs6⟩; rw [List.nil_append] at hs6; have n0_ := Aside0.mk (hfr.2 _ _ _ (by decide) (by decide) (blk_below BKi.out hb5)); have n1_ := Aside0.mk (hfr.2 _ _ _ (by decide) (by decide) (blk_below BKl.out hb5)); have n2_ := Aside0.mk (hfr.2 _ _ _ (by decide) (by decide) (blk_below BKa.out hb5)); have n3_ := Aside0.mk ((below_step HB.out hb5).trans hfr.1); obtain ⟨A6, c6, rfl⟩ := Kd.S_slice hs6; have HS6 := Aside0.mk hs6; have hco := (blk_cell hbk 0).trans rfl; clear HB BKi BKl BKa hs6 hfr hb5 hbk; have BKi := n0_; have BKl := n1_; have BKa := n2_; have HB := n3_; clear n0_ n1_ n2_ n3_; have hci := (blk_cell BKi.out 0).trans rfl; have hcf := blk_frozen BKi.out 0))
          go_roundg k1
          case measure => have := HK.out; omega
          case rel => exact ⟨inner + 1, _, rfl, ⟨by have := HIN.out; omega⟩, H4, ⟨by have := HK.out; omega⟩, ⟨blk_new _ _⟩, ⟨blk_alloc BKl.out _⟩, ⟨blk_alloc BKa.out _⟩, ⟨below_alloc HB.out _⟩⟩

end Go.Proofs.Ytlkgojgmgdeieaa.Fc
