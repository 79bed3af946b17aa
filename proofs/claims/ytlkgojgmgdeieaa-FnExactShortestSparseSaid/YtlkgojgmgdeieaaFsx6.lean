/- Functions of the program and of the reference as Lean functions, and the contracts of their calls: laid by a program of this repo (wip/gen.py), in part by hand. -/
import Derived.Test.YtlkgojgmgdeieaaFsx0
import Derived.Test.YtlkgojgmgdeieaaFsx5
namespace Go.Proofs.Ytlkgojgmgdeieaa.Fs
open Go.RowKit Go.Proofs.YtlkgojgmgdeieaaW.PrintWords Go.Proofs.YtlkgojgmgdeieaaW.PrintLast Go.Proofs.YtlkgojgmgdeieaaW.PrintMore
attribute [local go_sem] max2_int min2_int max_two min_two max_three min_three max_four min_four   -- for this text's walks alone
set_option linter.unusedVariables false
set_option linter.unusedSimpArgs false

/-! ### impl_firstSparse: function 67 -/
/-- The first of some numbers, from m on, for which F hands back something. -/
def impl_firstSparse.loop (F : List Int → Option (List Int)) (l : List Int) : Nat → Int → Option (List Int)
  | 0, _ => some []
  | j + 1, m => (F (l ++ [m])).bind fun r => if r = [] then impl_firstSparse.loop F l j (m + 1) else some r
/-- The last of some marks. -/
def impl_firstSparse.top (l : List Int) : Int := rd l (wrap64 ((l.length : Int) - 1))
def impl_firstSparse.put (e : Int) : Nat → List Int → Option (List Int)
  | 0, l => (impl_isSparse.f l).bind fun t => if t = true then ((impl_isSparse.f (l ++ [e])).bind fun u => if u = true then some (l ++ [e]) else some []) else some []
  | d + 1, l => (impl_isSparse.f l).bind fun t => if t = true then (if 0 ≤ impl_firstSparse.top l ∧ impl_firstSparse.top l ≤ 60 then impl_firstSparse.loop (impl_firstSparse.put e d) l (e - (impl_firstSparse.top l + 1)).toNat (impl_firstSparse.top l + 1) else none) else some []
def impl_firstSparse.l0 (d : Nat) : Nat → Int → Option (List Int × Bool)
  | 0, _ => none
  | k + 1, e => if e ≤ 60 then ((impl_firstSparse.put e d [0]).bind fun r => if r = [] then impl_firstSparse.l0 d k (e + 1) else some (r, true)) else none
def impl_firstSparse.f (k : Nat) (a0 : Int) : Option (List Int × Bool) := (impl_within.f a0 2 6).bind fun t => if t = true then (if 2 ≤ a0 ∧ a0 ≤ 6 then impl_firstSparse.l0 (a0 - 2).toNat k 1 else none) else some ([], false)
theorem impl_firstSparse.l0_mono (d : Nat) : ∀ (k : Nat) (e : Int), LeO (impl_firstSparse.l0 d k e) (impl_firstSparse.l0 d (k + 1) e)
  | 0, _ => fun r h => by simp [impl_firstSparse.l0] at h
  | k + 1, e => by
    rw [impl_firstSparse.l0, impl_firstSparse.l0]
    exact LeO.ite (LeO.bind (LeO.refl _) (fun _ => LeO.ite (impl_firstSparse.l0_mono d k _) (LeO.refl _))) (LeO.refl _)
theorem impl_firstSparse.mono : ∀ a0 k, LeO (impl_firstSparse.f k a0) (impl_firstSparse.f (k + 1) a0) := by
  intro a0 k
  unfold impl_firstSparse.f
  exact LeO.bind (LeO.refl _) (fun _ => LeO.ite (LeO.ite (impl_firstSparse.l0_mono _ k _) (LeO.refl _)) (LeO.refl _))
theorem impl_firstSparse.R_of {W : World} {base : Nat} {v : Value} {xs : List Int} (h : W.ownsRow base 3 1 v xs.length (xs.map (Value.int .i64))) : Kd.R (Kd.int .i64) 3 W base (fun _ => True) v xs := by
  refine ⟨fun _ _ => trivial, xs.map (Value.int .i64), h, (by show (xs.map (Value.int .i64)).length = xs.length * 1; simp), fun j p hj => ?_⟩
  obtain ⟨hl, rfl⟩ := List.getElem?_eq_some_iff.1 hj
  show ((xs.map (Value.int .i64)).drop (j * 1)).take 1 = [Value.int .i64 xs[j]]
  rw [Nat.mul_one, List.drop_eq_getElem_cons (by simpa using hl)]
  simp
/-- A row that is read and not empty: where it lies, and its cells. -/
theorem impl_firstSparse.C_cells {w : World} {A0 : Option Addr} {l0 : List Int} (h : Kd.C (Kd.int .i64) w A0 l0.length l0) (hp : 0 < l0.length) :
    ∃ b off, A0 = some ⟨b, off, none⟩ ∧ b < w.heap.size ∧ ∀ j, j < l0.length → w.cell? ⟨b, off + j, none⟩ = some (.int .i64 (l0.getD j 0)) := by
  obtain ⟨ad, rfl, h0⟩ := Kd.at_int h 0 (by omega) (by omega)
  have hs : ad.spot = none := by
    cases hsp : ad.spot with
    | none => rfl
    | some x =>
      simp only [Int.toNat_zero, Addr.add, if_true, World.cell?] at h0
      split at h0
      · simp [hsp] at h0
      · cases h0
  have hlt := World.block_lt_of_cell? w _ h0
  rw [add_block] at hlt
  obtain ⟨b, off, sp⟩ := ad
  simp only at hs hlt
  subst hs
  refine ⟨b, off, rfl, hlt, fun j hj => ?_⟩
  obtain ⟨ad', e', hc⟩ := Kd.at_int h (j : Int) (by omega) (by omega)
  cases e'
  rw [Int.toNat_natCast] at hc
  have e : (⟨b, off, none⟩ : Addr).add j = ⟨b, off + j, none⟩ := by
    unfold Addr.add
    by_cases hj0 : j = 0
    · subst hj0; rfl
    · rw [if_neg hj0]
  rw [e] at hc
  exact hc
/-- slices.Clone of marks, in any later world. -/
theorem impl_firstSparse.clone {W : World} {A : Option Addr} {l : List Int} (c : Nat) (hr : Kd.C (Kd.int .i64) W A l.length l) (hc : l.length ≤ c) (hp : 0 < l.length) (hl : l.length ≤ 1000) (w1 : World) (hb : Below W.heap.size W w1) :
    Calls Try.prog 74 #[.slice A l.length c] w1 fun e w' => ∃ v, e = .returned v ∧ Kd.R (Kd.int .i64) 3 w' w1.heap.size (fun _ => True) v l ∧ Below w1.heap.size w1 w' := by
  obtain ⟨b, off, rfl, _, hcell⟩ := impl_firstSparse.C_cells hr hp
  refine (Try.slices_Clone_int b off l.length c l w1 (Nat.le_refl _) (by omega) (fun j hj => (hb.cell (World.block_lt_of_cell? W _ (hcell j hj))).trans (hcell j hj))).mono ?_
  rintro e w' ⟨v', rfl, hown, hne, hbel⟩
  rw [List.take_length] at hown
  exact ⟨v', rfl, impl_firstSparse.R_of hown, hbel⟩
theorem impl_firstSparse.len {l : List Int} {t : Bool} (h : impl_isSparse.f l = some t) : 0 < l.length ∧ l.length ≤ 1000 := by
  unfold impl_isSparse.f at h
  have hf : impl_isSparse.M.fit l := by
    apply Classical.byContradiction; intro hn; rw [if_neg hn] at h; cases h
  exact ⟨hf.1.2, hf.1.1⟩
/-- append of one number to a row that was just made, as a step of a region that draws. -/
theorem impl_firstSparse.step_append {ops : Array Oper} {o : Oper} {a : Act} {Q : Exit → Act → World → Prop} {Kc : Act → World → Prop} {w0 w : World} (base gv : Nat) (hw : Region.wanted o (yielded ops a.tmps) = true) (s x : Operand)
    (ho : o.op = .call { callee := .builtin .append, args := #[s, x], argTypes := #[22, 22] }) (v : Value) (l : List Int) (p : Int) (hs : a.eval s = v) (hx : a.eval x = .slice (some ⟨gv, 0, none⟩) 1 1)
    (hg : w.heap[gv]? = some (.cells #[.int .i64 p] 3 (0, 0))) (HO : Kd.R (Kd.int .i64) 3 w base (fun _ => True) v l) (HB : Below base w0 w) (hbase : base ≤ w.heap.size) (hl : l.length ≤ 1000)
    (h : ∀ v1 w1, Kd.R (Kd.int .i64) 3 w1 base (fun _ => True) v1 (l ++ [p]) → Below base w0 w1 → (∀ (ad : Addr) (u : Value), ad.block < base → w.cell? ad = some u → w1.cell? ad = some u) → Kc (a.put o.dst v1) w1) :
    if Region.wanted o (yielded ops a.tmps) = true then Oper.wp Try.prog o a w Kc Q else Kc (a.put o.dst undef) w := by
  obtain ⟨i0, hi, hzz⟩ := Option.map_eq_some_iff.1 info3
  simp only [Prod.mk.injEq] at hzz
  obtain ⟨hz0, hz1, hz2⟩ := hzz
  rw [if_pos hw]
  have hown := Kd.own_of_R HO
  obtain ⟨v1, w1, hr, hown1, hgr, _, hat⟩ := run_append_own_at (P := Try.prog) w base 22 o.type 3 i0 (.int .i64 0) 1 8 Try.underlying22 hi hz0 hz1 hz2 rfl (by decide) v l.length (encs (Value.int .i64) l) hown ⟨gv, 0, none⟩ 1 1 [.int .i64 p] (by simp)
    (by simpa using World.news_of_block hg) (by simp [Value.oneCell']) (by simp only [maxLen]; omega) (by omega) hbase
  unfold Oper.wp execOp
  simp only [ho, resolve, invoke, builtin, Sem.run_bind, Sem.run_pure, Result.andThen_ok, List.map_toArray, List.map_cons, List.map_nil, hs, hx, hr]
  refine h v1 w1 (Kd.R_of_own ?_ (fun _ _ => trivial)) (HB.grown hgr hbase (own_base hown)) (fun ad u hlt hc => ?_)
  · have e : encs (Value.int .i64) (l ++ [p]) = encs (Value.int .i64) l ++ [.int .i64 p] := by simp [encs]
    rw [e, List.length_append]
    exact hown1
  · exact (((Below.refl base w).grown hgr hbase (own_base hown)).cell hlt).trans hc
theorem impl_firstSparse.equalIn_nil (w : World) (d : Nat) (a : Option Addr) (n c : Nat) : (Op.equalIn (d + 1) 22 (.slice a n c) (.slice none 0 0)).run Try.prog w = .ok a.isNone w := by
  cases a <;> simp [Op.equalIn, run_underlying Try.underlying22]
theorem impl_firstSparse.neq_nil (w : World) (a : Option Addr) (n c : Nat) : (binOp .neq 22 (.slice a n c) (.slice none 0 0)).run Try.prog w = .ok (.bool (!a.isNone)) w := by
  simp only [binOp]
  simp [Op.equal, Op.maxDepth, impl_firstSparse.equalIn_nil w 9999 a n c]
theorem impl_firstSparse.enters (args : Array Value) (w : World) : (callFunc 83 args).run Try.prog w = .ok (.enter 83 args) w := by go_simp
theorem impl_firstSparse.store_put (W : World) (c : Array Value) : (store ⟨W.heap.size, 0, none⟩ (.func (.func 83) #[] c)).run Try.prog (W.alloc (.cells #[.nilFunc] 25)) = .ok () (W.alloc (.cells #[.func (.func 83) #[] c] 25)) := by
  rw [run_store _ _ _ _ _ rfl]
  first | (go_simp; done) | (go_simp; rfl)
set_option maxRecDepth 100000 in
set_option maxHeartbeats 8000000 in
/-- What the closure hands back. -/
theorem impl_firstSparse.put_calls (many e : Int) (bm be bp : Nat) (hme : many ≤ 1000 ∧ e ≤ 1000) : ∀ (d : Nat) (l r : List Int) (A : Option Addr) (c : Nat) (W : World), impl_firstSparse.put e d l = some r → (l.length : Int) + d + 1 = many → (W.cell? ⟨bm, 0, none⟩ = some (.int .i64 many) ∧ W.cell? ⟨be, 0, none⟩ = some (.int .i64 e) ∧ W.cell? ⟨bp, 0, none⟩ = some (.func (.func 83) #[] #[.pointer (some ⟨bm, 0, none⟩), .pointer (some ⟨be, 0, none⟩), .pointer (some ⟨bp, 0, none⟩)])) → Kd.C (Kd.int .i64) W A l.length l → l.length ≤ c →
    Calls Try.prog 83 #[.slice A l.length c, .pointer (some ⟨bm, 0, none⟩), .pointer (some ⟨be, 0, none⟩), .pointer (some ⟨bp, 0, none⟩)] W fun e_ w' => ∃ v, e_ = .returned v ∧ Kd.R (Kd.int .i64) 3 w' W.heap.size (fun _ => True) v r ∧ (r = [] → v = .slice none 0 0) ∧ Below W.heap.size W w' := by
  intro d
  induction d with
  | zero =>
    intro l r A c W hput hlen hheld hC hc
    rw [impl_firstSparse.put] at hput
    obtain ⟨t, ht, h2⟩ := Option.bind_eq_some_iff.1 hput
    clear hput
    have HLEN := Aside0.mk (impl_firstSparse.len ht)
    have HME := Aside0.mk hme
    have hu := Try.underlying22
    have qn := fun (w_ : World) (a_ : Option Addr) (n_ c_ : Nat) => impl_firstSparse.neq_nil w_ a_ n_ c_
    have HS := Aside0.mk (fun (w1 : World) (hb : Below W.heap.size W w1) => impl_isSparse.calls A c l t w1 (Kd.C_below hC hb) hc ht)
    have HK := Aside0.mk (impl_firstSparse.clone c hC hc (impl_firstSparse.len ht).1 (impl_firstSparse.len ht).2)
    have HM := Aside0.mk hlen
    have HCE0 := Aside0.mk hheld
    have HLT := Aside0.mk (show bm < W.heap.size ∧ be < W.heap.size ∧ bp < W.heap.size from ⟨World.block_lt_of_cell? W _ hheld.1, World.block_lt_of_cell? W _ hheld.2.1, World.block_lt_of_cell? W _ hheld.2.2⟩)
    clear hC hheld
    cases t with
    | false =>
      obtain rfl : [] = r := by simpa using h2
      clear h2 HCE0 HM hlen HK
      go_enter Try.func83, Try.ntmps83
      go_wp2_with (go_at_call 56; refine (HS.out _ (Below.refl _ _)).mono ?_; rintro e_ w1 ⟨rfl, hb⟩)
      go_ret
      exact ⟨_, rfl, Kd.R_nil _ _ _ _ _, (by first | rfl | exact fun _ => rfl), hb⟩
    | true =>
      rw [if_pos rfl] at h2
      obtain ⟨u, hu, h3⟩ := Option.bind_eq_some_iff.1 h2
      clear h2
      have hmw : wrap64 (many - 1) = (l.length : Int) := by have := HLEN.out; have := HME.out; unfold wrap64; omega
      obtain ⟨y, hy⟩ : ∃ y_ : List Int, y_ = l ++ [e] := ⟨_, rfl⟩
      rw [← hy] at hu h3
      have hyl : y.length = l.length + 1 := by rw [hy]; simp
      have Ny := Aside0.mk hy
      have HYL := Aside0.mk hyl
      have HU := Aside0.mk hu
      have H3 := Aside0.mk h3
      clear hu h3 hy hyl hlen
      go_enter Try.func83, Try.ntmps83
      go_wp2_with (go_at_call 56; refine (HS.out _ (Below.refl _ _)).mono ?_; rintro e_ w0 ⟨rfl, hb⟩; have HB := Aside0.mk hb; have hcz1 := pw_cell_below hb HCE0.out.1; have HCE := Aside0.mk (show w0.cell? ⟨bm, 0, none⟩ = some (.int .i64 many) ∧ w0.cell? ⟨be, 0, none⟩ = some (.int .i64 e) ∧ w0.cell? ⟨bp, 0, none⟩ = some (.func (.func 83) #[] #[.pointer (some ⟨bm, 0, none⟩), .pointer (some ⟨be, 0, none⟩), .pointer (some ⟨bp, 0, none⟩)]) from ⟨pw_cell_below hb HCE0.out.1, pw_cell_below hb HCE0.out.2.1, pw_cell_below hb HCE0.out.2.2⟩); clear hb)
      refine start_ (n := 6) (S := fun w' => w'.cell? ⟨bm, 0, none⟩ = some (.int .i64 many) ∧ w'.cell? ⟨be, 0, none⟩ = some (.int .i64 e) ∧ w'.cell? ⟨bp, 0, none⟩ = some (.func (.func 83) #[] #[.pointer (some ⟨bm, 0, none⟩), .pointer (some ⟨be, 0, none⟩), .pointer (some ⟨bp, 0, none⟩)])) (ds := []) #[false, false, false, false, false, false] (by kernel_rfl) rfl rfl HCE.out (fun hHeld => ?_)
      replace HB := Aside0.mk (below_drew1 HB.out)
      generalize World.drew _ = w1 at HB hHeld ⊢
      refine pure_ (i := 0) (N := some 17) (v := ?_) (a' := ?_) #[true, false, false, false, false, false] rfl rfl (by kernel_rfl) (fun _ _ _ h => h) (Or.inl ⟨by rfl, ?_⟩) ?_ ?_
      rotate_left
      · intro w'
        go_simp
        with_reducible rfl
      rotate_left
      · simp only [Act.put, List.setIfInBounds_toArray, List.set_cons_zero, List.set_cons_succ, i64_w, i32_w]
        rfl
      refine take_ (i := 2) (N := some 19) (v := ?_) (a' := ?_) #[true, false, true, false, false, false] rfl rfl (by kernel_rfl) (fun _ _ _ h => h) (Or.inl ⟨by rfl, ?_⟩) hHeld ?_ ?_
      rotate_left
      · rintro w' ⟨s0, s1, s2⟩
        go_simp
        with_reducible rfl
      rotate_left
      · simp only [Act.put, List.setIfInBounds_toArray, List.set_cons_zero, List.set_cons_succ, i64_w, i32_w]
        rfl
      refine join_ (σ := Value × Nat) 2 #[true, true, true, true, false, false] (fun s => [(18, s.1), (20, .slice (some ⟨s.2, 0, none⟩) 1 1)]) (fun s w' => (w'.cell? ⟨bm, 0, none⟩ = some (.int .i64 many) ∧ w'.cell? ⟨be, 0, none⟩ = some (.int .i64 e) ∧ w'.cell? ⟨bp, 0, none⟩ = some (.func (.func 83) #[] #[.pointer (some ⟨bm, 0, none⟩), .pointer (some ⟨be, 0, none⟩), .pointer (some ⟨bp, 0, none⟩)])) ∧ Kd.R (Kd.int .i64) 3 w' W.heap.size (fun _ => True) s.1 l ∧ w'.heap[s.2]? = some (.cells #[.int .i64 e] 3 (0, 0)) ∧ Below W.heap.size W w') ?hcont (fun hcont => ?_)
      case hcont =>
        rintro ⟨v1, gv⟩ wj ⟨hHeld, hc_, hg_, hb_⟩
        replace HB := Aside0.mk hb_
        have HC_ := Aside0.mk hc_
        have HG_ := Aside0.mk hg_
        clear hb_ hc_ hg_
        refine norm_ (a' := ?_) ?_ ?_
        rotate_left
        · simp only [putAll, Act.put, List.setIfInBounds_toArray, List.set_cons_zero, List.set_cons_succ]
          rfl
        refine one_ (i := 4) (N := some 21) #[true, true, true, true, true, false] rfl rfl (by kernel_rfl) (by decide) (fun K hK => ?_)
        refine impl_firstSparse.step_append W.heap.size gv (by rfl) (.tmp 18) (.tmp 20) rfl v1 l e rfl rfl HG_.out HC_.out HB.out (below_size HB.out) HLEN.out.2 ?_
        intro v2 w4 ho hb hk_
        rw [← Ny.out] at ho
        replace HB := Aside0.mk hb
        have HO := Aside0.mk ho
        refine hK.out _ _ ⟨hk_ _ _ HLT.out.1 hHeld.1, hk_ _ _ HLT.out.2.1 hHeld.2.1, hk_ _ _ HLT.out.2.2 hHeld.2.2⟩ (fun hHeld => ?_)
        clear hK K ho hb hk_ HC_ HG_
        refine norm_ (a' := ?_) ?_ ?_
        rotate_left
        · show Act.put _ (some 21) _ = _
          simp only [Act.put, List.setIfInBounds_toArray, List.set_cons_zero, List.set_cons_succ, i64_w, i32_w]
          rfl
        refine pure_ (i := 5) (N := some 6) (v := ?_) (a' := ?_) #[true, true, true, true, true, true] rfl rfl (by kernel_rfl) (fun _ _ _ h => h) (Or.inl ⟨by rfl, ?_⟩) ?_ ?_
        rotate_left
        · intro w'
          go_simp
          with_reducible rfl
        rotate_left
        · simp only [Act.put, List.setIfInBounds_toArray, List.set_cons_zero, List.set_cons_succ, i64_w, i32_w]
          rfl
        refine done_ (by kernel_rfl) ?_
        obtain ⟨g, cap, rfl, hq1, hq2, hq3⟩ := Kd.R_form HO.out (by have := HYL.out; omega)
        have HR := Kd.R_reads' HO.out
        have HS2 := Aside0.mk (impl_isSparse.calls _ cap y u w4 HR.2.2 HR.2.1 HU.out)
        clear HR hq1 hq2 hq3
        cases u with
        | false =>
          have h3 := H3.out
          obtain rfl : [] = r := by simpa using h3
          clear h3 H3
          go_wp2_with (go_at_call 56; refine HS2.out.mono ?_; rintro e_ w5 ⟨rfl, hb⟩; replace HB := Aside0.mk (below_step HB.out hb); clear hb)
          go_ret
          exact ⟨.slice none 0 0, rfl, Kd.R_nil _ _ _ _ _, (by first | rfl | exact fun _ => rfl), HB.out⟩
        | true =>
          have h3 := H3.out
          obtain rfl : y = r := by simpa using h3
          clear h3 H3
          go_wp2_with (go_at_call 56; refine HS2.out.mono ?_; rintro e_ w5 ⟨rfl, hb⟩; replace HB := Aside0.mk (below_step HB.out hb); replace HO := Aside0.mk (Kd.R_below HO.out hb); clear hb)
          go_ret
          exact ⟨.slice (some ⟨g, 0, none⟩) y.length cap, rfl, HO.out, fun h_ => absurd h_ (by intro h9; have := HYL.out; rw [h9] at this; simp at this), HB.out⟩
      refine two_ (i := 1) (j := 3) (Ni := some 18) (Nj := some 20) #[true, true, true, false, false, false] #[true, false, true, true, false, false] rfl rfl rfl rfl (by kernel_rfl) (by decide) (by decide) (fun K hK => ?_) (fun K hK => ?_)
      · refine goes_ Try.func74 (by kernel_rfl) rfl #[.slice A l.length c] (by rfl) rfl rfl (by (try simp only [List.map_toArray, List.map_cons, List.map_nil]); first | done | rfl | (simp only [List.length_drop, List.length_take]; rfl)) ?_
        refine (HK.out _ (by repeat (first | (with_reducible first | exact HB.out | apply below_alloc | apply pw_below_drewN | apply below_drew1) | exact HB.out))).mono ?_
        rintro e_ w2 ⟨v1, rfl, ho, hb⟩
        refine ⟨_, rfl, ?_⟩
        have n0_ := Aside0.mk (Kd.R_lower ho (below_size (by repeat (first | (with_reducible first | exact HB.out | apply below_alloc | apply pw_below_drewN | apply below_drew1) | exact HB.out))))
        have n1_ := Aside0.mk (below_step (by repeat (first | (with_reducible first | exact HB.out | apply below_alloc | apply pw_below_drewN | apply below_drew1) | exact HB.out)) hb)
        refine hK.out _ _ ⟨pw_cell_below hb hHeld.1, pw_cell_below hb hHeld.2.1, pw_cell_below hb hHeld.2.2⟩ (fun hHeld => ?_)
        clear HB hK K hb ho
        have HC_ := n0_
        have HB := n1_
        clear n0_ n1_
        refine norm_ (a' := ?_) ?_ ?_
        rotate_left
        · show Act.put _ (some 18) _ = _
          simp only [Act.put, List.setIfInBounds_toArray, List.set_cons_zero, List.set_cons_succ, i64_w, i32_w]
          rfl
        refine one_ (i := 3) (N := some 20) #[true, true, true, true, false, false] rfl rfl (by kernel_rfl) (by decide) (fun K hK => ?_)
        refine value_ (w1 := w2.alloc (.cells #[.int .i64 e] 3)) (v := .slice (some ⟨w2.heap.size, 0, none⟩) 1 1) (by rfl) rfl ?_ ?_
        · first | (go_simp; done) | (go_simp; rfl)
        refine hK.out _ _ ⟨pw_cell_below (below_alloc (Below.refl _ _) _) hHeld.1, pw_cell_below (below_alloc (Below.refl _ _) _) hHeld.2.1, pw_cell_below (below_alloc (Below.refl _ _) _) hHeld.2.2⟩ (fun hHeld => ?_)
        clear hK K
        exact hcont ⟨v1, w2.heap.size⟩ _ ⟨hHeld, Kd.R_alloc HC_.out _, blk_new w2 _, below_alloc HB.out _⟩
      · refine value_ (w1 := w1.alloc (.cells #[.int .i64 e] 3)) (v := .slice (some ⟨w1.heap.size, 0, none⟩) 1 1) (by rfl) rfl ?_ ?_
        · first | (go_simp; done) | (go_simp; rfl)
        refine hK.out _ _ ⟨pw_cell_below (below_alloc (Below.refl _ _) _) hHeld.1, pw_cell_below (below_alloc (Below.refl _ _) _) hHeld.2.1, pw_cell_below (below_alloc (Below.refl _ _) _) hHeld.2.2⟩ (fun hHeld => ?_)
        clear hK K
        refine norm_ (a' := ?_) ?_ ?_
        rotate_left
        · show Act.put _ (some 20) _ = _
          simp only [Act.put, List.setIfInBounds_toArray, List.set_cons_zero, List.set_cons_succ, i64_w, i32_w]
          rfl
        refine one_ (i := 1) (N := some 18) #[true, true, true, true, false, false] rfl rfl (by kernel_rfl) (by decide) (fun K hK => ?_)
        refine goes_ Try.func74 (by kernel_rfl) rfl #[.slice A l.length c] (by rfl) rfl rfl (by (try simp only [List.map_toArray, List.map_cons, List.map_nil]); first | done | rfl | (simp only [List.length_drop, List.length_take]; rfl)) ?_
        refine (HK.out _ (by repeat (first | (with_reducible first | exact HB.out | apply below_alloc | apply pw_below_drewN | apply below_drew1) | exact HB.out))).mono ?_
        rintro e_ w2 ⟨v1, rfl, ho, hb⟩
        refine ⟨_, rfl, ?_⟩
        refine hK.out _ _ ⟨pw_cell_below hb hHeld.1, pw_cell_below hb hHeld.2.1, pw_cell_below hb hHeld.2.2⟩ (fun hHeld => ?_)
        clear hK K
        exact hcont ⟨v1, w1.heap.size⟩ _ ⟨hHeld, Kd.R_lower ho (below_alloc HB.out (.cells #[.int .i64 e] 3)).size, blk_below (blk_new w1 _) hb, below_step (below_alloc HB.out _) hb⟩
  | succ d ih =>
    intro l r A c W hput hlen hheld hC hc
    rw [impl_firstSparse.put] at hput
    obtain ⟨t, ht, h2⟩ := Option.bind_eq_some_iff.1 hput
    clear hput
    have HLEN := Aside0.mk (impl_firstSparse.len ht)
    have HME := Aside0.mk hme
    have hu := Try.underlying22
    have qn := fun (w_ : World) (a_ : Option Addr) (n_ c_ : Nat) => impl_firstSparse.neq_nil w_ a_ n_ c_
    have HS := Aside0.mk (fun (w1 : World) (hb : Below W.heap.size W w1) => impl_isSparse.calls A c l t w1 (Kd.C_below hC hb) hc ht)
    have HK := Aside0.mk (impl_firstSparse.clone c hC hc (impl_firstSparse.len ht).1 (impl_firstSparse.len ht).2)
    have HM := Aside0.mk hlen
    have HCE0 := Aside0.mk hheld
    have HLT := Aside0.mk (show bm < W.heap.size ∧ be < W.heap.size ∧ bp < W.heap.size from ⟨World.block_lt_of_cell? W _ hheld.1, World.block_lt_of_cell? W _ hheld.2.1, World.block_lt_of_cell? W _ hheld.2.2⟩)
    have HC := Aside0.mk hC
    clear hC hheld
    cases t with
    | false =>
      obtain rfl : [] = r := by simpa using h2
      clear h2 HCE0 HM hlen HK HC ih
      go_enter Try.func83, Try.ntmps83
      go_wp2_with (go_at_call 56; refine (HS.out _ (Below.refl _ _)).mono ?_; rintro e_ w1 ⟨rfl, hb⟩)
      go_ret
      exact ⟨.slice none 0 0, rfl, Kd.R_nil _ _ _ _ _, (by first | rfl | exact fun _ => rfl), hb⟩
    | true =>
      rw [if_pos rfl] at h2
      have htop : 0 ≤ impl_firstSparse.top l ∧ impl_firstSparse.top l ≤ 60 := by
        apply Classical.byContradiction; intro hn; rw [if_neg hn] at h2; cases h2
      rw [if_pos htop] at h2
      obtain ⟨q, hq, hqn⟩ : ∃ q : Int, wrap64 (many - 1) = q ∧ ((l.length : Int) == q) = false := ⟨_, rfl, by rw [beq_eq_false_iff_ne]; have := HLEN.out; have := HME.out; unfold wrap64; omega⟩
      obtain ⟨i1, hi1⟩ : ∃ i1 : Int, wrap64 ((l.length : Int) - 1) = i1 := ⟨_, rfl⟩
      have hp1 : 0 ≤ i1 := by rw [← hi1]; have := HLEN.out; have := HME.out; unfold wrap64; omega
      have hp2 : i1 < (l.length : Int) := by rw [← hi1]; have := HLEN.out; have := HME.out; unfold wrap64; omega
      obtain ⟨ad1, e1, hx1⟩ := Kd.at_int HC.out i1 hp1 hp2
      cases e1
      obtain ⟨tp, htp⟩ : ∃ tp : Int, impl_firstSparse.top l = tp := ⟨_, rfl⟩
      rw [htp] at htop h2
      have hrt : rd l i1 = tp := by rw [← htp, impl_firstSparse.top, hi1]
      rw [hrt] at hx1
      have hwt : wrap64 (tp + 1) = tp + 1 := by unfold wrap64; omega
      have HX1 := Aside0.mk hx1
      have HT := Aside0.mk htop
      have H2 := Aside0.mk h2
      obtain ⟨n, hn⟩ : ∃ n : Nat, (e - (tp + 1)).toNat = n := ⟨_, rfl⟩
      rw [hn] at H2
      have HN := Aside0.mk hn
      replace hp1 := eq_true hp1
      replace hp2 := eq_true hp2
      clear h2 htop htp hlen hrt hx1 hn
      go_enter Try.func83, Try.ntmps83
      go_wp2_with (go_at_call 56; refine (HS.out _ (Below.refl _ _)).mono ?_; rintro e_ w0 ⟨rfl, hb⟩; have HB := Aside0.mk hb; have hcz1 := pw_cell_below hb HCE0.out.1; have hx2 := pw_cell_below hb HX1.out; clear hb)
      go_loopg [7] n (fun gg v7 wr => ∃ i : Nat, i ≤ n ∧ n - i ≤ gg ∧ v7 = .int .i64 (tp + 1 + (i : Int)) ∧ Aside0 (impl_firstSparse.loop (impl_firstSparse.put e d) l (n - i) (tp + 1 + (i : Int)) = some r) ∧ Aside0 (Below W.heap.size W wr))
      case atStart => exact ⟨0, Nat.zero_le _, by omega, by first | rfl | (simp; done) | (rw [hwt]; simp) | (simp [hwt]; done), ⟨by first | exact H2.out | (have := H2.out; simpa using this)⟩, HB⟩
      case round =>
        clear HB H2 hcz1 hx2
        obtain ⟨i, hin, hg, rfl, HA, HB⟩ := hrel
        have hheld : wr.cell? ⟨bm, 0, none⟩ = some (.int .i64 many) ∧ wr.cell? ⟨be, 0, none⟩ = some (.int .i64 e) ∧ wr.cell? ⟨bp, 0, none⟩ = some (.func (.func 83) #[] #[.pointer (some ⟨bm, 0, none⟩), .pointer (some ⟨be, 0, none⟩), .pointer (some ⟨bp, 0, none⟩)]) := ⟨pw_cell_below HB.out HCE0.out.1, pw_cell_below HB.out HCE0.out.2.1, pw_cell_below HB.out HCE0.out.2.2⟩
        have HCE := Aside0.mk hheld
        have hcz2 := hheld.2.1
        clear hheld
        obtain ⟨m, hm⟩ : ∃ m : Int, tp + 1 + (i : Int) = m := ⟨_, rfl⟩
        rw [hm] at HA ⊢
        by_cases hlt : m < e
        · have hnn : i < n := by have := HN.out; omega
          have h1 := HA.out
          rw [show n - i = (n - (i + 1)) + 1 by omega, impl_firstSparse.loop] at h1
          obtain ⟨r1, hr1, h3⟩ := Option.bind_eq_some_iff.1 h1
          have hmb : wrap64 (m + 1) = m + 1 := by have := HT.out; have := HN.out; have := HME.out; unfold wrap64; omega
          have hlb : decide (m < e) = true := decide_eq_true hlt
          obtain ⟨y, hy⟩ : ∃ y_ : List Int, y_ = l ++ [m] := ⟨_, rfl⟩
          rw [← hy] at hr1
          have hyl : y.length = l.length + 1 := by rw [hy]; simp
          have Ny := Aside0.mk hy
          have HYL := Aside0.mk hyl
          have HI := Aside0.mk (fun (W4 : World) (A' : Option Addr) (c' : Nat) (h4 : W4.cell? ⟨bm, 0, none⟩ = some (.int .i64 many) ∧ W4.cell? ⟨be, 0, none⟩ = some (.int .i64 e) ∧ W4.cell? ⟨bp, 0, none⟩ = some (.func (.func 83) #[] #[.pointer (some ⟨bm, 0, none⟩), .pointer (some ⟨be, 0, none⟩), .pointer (some ⟨bp, 0, none⟩)])) (hC' : Kd.C (Kd.int .i64) W4 A' y.length y) (hc' : y.length ≤ c') => ih y r1 A' c' W4 hr1 (by have := HM.out; omega) h4 hC' hc')
          have H3 := Aside0.mk h3
          have HMI := Aside0.mk hm
          clear h1 h3 hr1 hy hyl HA hm
          try go_wp2_with fail
          refine start_ (n := 8) (S := fun w' => w'.cell? ⟨bm, 0, none⟩ = some (.int .i64 many) ∧ w'.cell? ⟨be, 0, none⟩ = some (.int .i64 e) ∧ w'.cell? ⟨bp, 0, none⟩ = some (.func (.func 83) #[] #[.pointer (some ⟨bm, 0, none⟩), .pointer (some ⟨be, 0, none⟩), .pointer (some ⟨bp, 0, none⟩)])) (ds := []) #[false, false, false, false, false, false, false, false] (by kernel_rfl) rfl rfl HCE.out (fun hHeld => ?_)
          replace HB := Aside0.mk (below_drew1 HB.out)
          generalize World.drew _ = w1 at HB hHeld ⊢
          refine take_ (i := 0) (N := some 37) (v := ?_) (a' := ?_) #[true, false, false, false, false, false, false, false] rfl rfl (by kernel_rfl) (fun _ _ _ h => h) (Or.inl ⟨by rfl, ?_⟩) hHeld ?_ ?_
          rotate_left
          · rintro w' ⟨s0, s1, s2⟩
            go_simp
            with_reducible rfl
          rotate_left
          · simp only [Act.put, List.setIfInBounds_toArray, List.set_cons_zero, List.set_cons_succ, i64_w, i32_w]
            rfl
          refine pure_ (i := 1) (N := some 38) (v := ?_) (a' := ?_) #[true, true, false, false, false, false, false, false] rfl rfl (by kernel_rfl) (fun _ _ _ h => h) (Or.inl ⟨by rfl, ?_⟩) ?_ ?_
          rotate_left
          · intro w'
            go_simp
            with_reducible rfl
          rotate_left
          · simp only [Act.put, List.setIfInBounds_toArray, List.set_cons_zero, List.set_cons_succ, i64_w, i32_w]
            rfl
          refine pure_ (i := 3) (N := some 40) (v := ?_) (a' := ?_) #[true, true, false, true, false, false, false, false] rfl rfl (by kernel_rfl) (fun _ _ _ h => h) (Or.inl ⟨by rfl, ?_⟩) ?_ ?_
          rotate_left
          · intro w'
            go_simp
            with_reducible rfl
          rotate_left
          · simp only [Act.put, List.setIfInBounds_toArray, List.set_cons_zero, List.set_cons_succ, i64_w, i32_w]
            rfl
          refine join_ (σ := Value × Nat) 3 #[true, true, true, true, true, false, false, false] (fun s => [(39, s.1), (41, .slice (some ⟨s.2, 0, none⟩) 1 1)]) (fun s w' => (w'.cell? ⟨bm, 0, none⟩ = some (.int .i64 many) ∧ w'.cell? ⟨be, 0, none⟩ = some (.int .i64 e) ∧ w'.cell? ⟨bp, 0, none⟩ = some (.func (.func 83) #[] #[.pointer (some ⟨bm, 0, none⟩), .pointer (some ⟨be, 0, none⟩), .pointer (some ⟨bp, 0, none⟩)])) ∧ Kd.R (Kd.int .i64) 3 w' W.heap.size (fun _ => True) s.1 l ∧ w'.heap[s.2]? = some (.cells #[.int .i64 m] 3 (0, 0)) ∧ Below W.heap.size W w') ?hcont (fun hcont => ?_)
          case hcont =>
            rintro ⟨v1, gv⟩ wj ⟨hHeld, hc_, hg_, hb_⟩
            replace HB := Aside0.mk hb_
            have HC_ := Aside0.mk hc_
            have HG_ := Aside0.mk hg_
            clear hb_ hc_ hg_
            refine norm_ (a' := ?_) ?_ ?_
            rotate_left
            · simp only [putAll, Act.put, List.setIfInBounds_toArray, List.set_cons_zero, List.set_cons_succ]
              rfl
            refine one_ (i := 5) (N := some 42) #[true, true, true, true, true, true, false, false] rfl rfl (by kernel_rfl) (by decide) (fun K hK => ?_)
            refine impl_firstSparse.step_append W.heap.size gv (by rfl) (.tmp 39) (.tmp 41) rfl v1 l m rfl rfl HG_.out HC_.out HB.out (below_size HB.out) HLEN.out.2 ?_
            intro v2 w4 ho hb hk_
            rw [← Ny.out] at ho
            replace HB := Aside0.mk hb
            have HO := Aside0.mk ho
            refine hK.out _ _ ⟨hk_ _ _ HLT.out.1 hHeld.1, hk_ _ _ HLT.out.2.1 hHeld.2.1, hk_ _ _ HLT.out.2.2 hHeld.2.2⟩ (fun hHeld => ?_)
            clear hK K ho hb hk_ HC_ HG_
            refine norm_ (a' := ?_) ?_ ?_
            rotate_left
            · show Act.put _ (some 42) _ = _
              simp only [Act.put, List.setIfInBounds_toArray, List.set_cons_zero, List.set_cons_succ, i64_w, i32_w]
              rfl
            obtain ⟨g, cap, rfl, hq1, hq2, hq3⟩ := Kd.R_form HO.out (by have := HYL.out; omega)
            have HR := Kd.R_reads' HO.out
            refine one_ (i := 6) (N := some 43) #[true, true, true, true, true, true, true, false] rfl rfl (by kernel_rfl) (by decide) (fun K hK => ?_)
            refine call_ 83 #[.slice (some ⟨g, 0, none⟩) y.length cap, .pointer (some ⟨bm, 0, none⟩), .pointer (some ⟨be, 0, none⟩), .pointer (some ⟨bp, 0, none⟩)] (by rfl) rfl ?hrun ?_
            case hrun =>
              unfold execOp
              simp [resolve, Deferred.ofValue, invoke, Act.eval, impl_firstSparse.enters]
            refine (HI.out w4 _ cap hHeld HR.2.2 HR.2.1).mono ?_
            rintro e_ w5 ⟨v3, rfl, hv, hnil, hb⟩
            refine ⟨_, rfl, ?_⟩
            refine hK.out _ _ ⟨pw_cell_below hb hHeld.1, pw_cell_below hb hHeld.2.1, pw_cell_below hb hHeld.2.2⟩ (fun hHeld => ?_)
            replace hv := Kd.R_lower hv (below_size HB.out)
            replace HB := Aside0.mk (below_step HB.out hb)
            clear hK K hb HR hq1 hq2 hq3 HO
            refine norm_ (a' := ?_) ?_ ?_
            rotate_left
            · show Act.put _ (some 43) _ = _
              simp only [Act.put, List.setIfInBounds_toArray, List.set_cons_zero, List.set_cons_succ, i64_w, i32_w]
              rfl
            refine pure_ (i := 7) (N := some 8) (v := ?_) (a' := ?_) #[true, true, true, true, true, true, true, true] rfl rfl (by kernel_rfl) (fun _ _ _ h => h) (Or.inl ⟨by rfl, ?_⟩) ?_ ?_
            rotate_left
            · intro w'
              go_simp
              with_reducible rfl
            rotate_left
            · simp only [Act.put, List.setIfInBounds_toArray, List.set_cons_zero, List.set_cons_succ, i64_w, i32_w]
              rfl
            refine done_ (by kernel_rfl) ?_
            have h3 := H3.out
            by_cases hr0 : r1 = []
            · rw [if_pos hr0] at h3
              obtain rfl := hnil hr0
              have H4 := Aside0.mk h3
              clear h3 H3 hv hnil hr0
              go_wp2
              go_roundg (n - (i + 1))
              case measure => omega
              case rel => exact ⟨i + 1, by omega, by omega, by have := HMI.out; rw [show (tp + 1 + ((i + 1 : Nat) : Int)) = m + 1 by omega]; first | rfl | rw [hmb] | go_num, ⟨by have := HMI.out; rw [show (tp + 1 + ((i + 1 : Nat) : Int)) = m + 1 by omega]; exact H4.out⟩, ⟨(by repeat (first | (with_reducible first | exact HB.out | apply below_alloc | apply pw_below_drewN | apply below_drew1) | exact HB.out))⟩⟩
            · rw [if_neg hr0] at h3
              obtain rfl := Option.some.inj h3
              have HV := Aside0.mk hv
              have HR0 := Aside0.mk hr0
              obtain ⟨g3, cap3, rfl, hq1, hq2, hq3⟩ := Kd.R_form HV.out (List.length_pos_iff.2 hr0)
              clear h3 H3 hv hnil hr0 hq1 hq2 hq3
              go_wp2
              go_ret
              exact ⟨.slice (some ⟨g3, 0, none⟩) r1.length cap3, rfl, HV.out, fun h_ => absurd h_ HR0.out, HB.out⟩
          refine two_ (i := 2) (j := 4) (Ni := some 39) (Nj := some 41) #[true, true, true, true, false, false, false, false] #[true, true, false, true, true, false, false, false] rfl rfl rfl rfl (by kernel_rfl) (by decide) (by decide) (fun K hK => ?_) (fun K hK => ?_)
          · refine goes_ Try.func74 (by kernel_rfl) rfl #[.slice (some ad1) l.length c] (by rfl) rfl rfl (by (try simp only [List.map_toArray, List.map_cons, List.map_nil]); first | done | rfl | (simp only [List.length_drop, List.length_take]; rfl)) ?_
            refine (HK.out _ (by repeat (first | (with_reducible first | exact HB.out | apply below_alloc | apply pw_below_drewN | apply below_drew1) | exact HB.out))).mono ?_
            rintro e_ w2 ⟨v1, rfl, ho, hb⟩
            refine ⟨_, rfl, ?_⟩
            have n0_ := Aside0.mk (Kd.R_lower ho (below_size (by repeat (first | (with_reducible first | exact HB.out | apply below_alloc | apply pw_below_drewN | apply below_drew1) | exact HB.out))))
            have n1_ := Aside0.mk (below_step (by repeat (first | (with_reducible first | exact HB.out | apply below_alloc | apply pw_below_drewN | apply below_drew1) | exact HB.out)) hb)
            refine hK.out _ _ ⟨pw_cell_below hb hHeld.1, pw_cell_below hb hHeld.2.1, pw_cell_below hb hHeld.2.2⟩ (fun hHeld => ?_)
            clear HB hK K hb ho
            have HC_ := n0_
            have HB := n1_
            clear n0_ n1_
            refine norm_ (a' := ?_) ?_ ?_
            rotate_left
            · show Act.put _ (some 39) _ = _
              simp only [Act.put, List.setIfInBounds_toArray, List.set_cons_zero, List.set_cons_succ, i64_w, i32_w]
              rfl
            refine one_ (i := 4) (N := some 41) #[true, true, true, true, true, false, false, false] rfl rfl (by kernel_rfl) (by decide) (fun K hK => ?_)
            refine value_ (w1 := w2.alloc (.cells #[.int .i64 m] 3)) (v := .slice (some ⟨w2.heap.size, 0, none⟩) 1 1) (by rfl) rfl ?_ ?_
            · first | (go_simp; done) | (go_simp; rfl)
            refine hK.out _ _ ⟨pw_cell_below (below_alloc (Below.refl _ _) _) hHeld.1, pw_cell_below (below_alloc (Below.refl _ _) _) hHeld.2.1, pw_cell_below (below_alloc (Below.refl _ _) _) hHeld.2.2⟩ (fun hHeld => ?_)
            clear hK K
            exact hcont ⟨v1, w2.heap.size⟩ _ ⟨hHeld, Kd.R_alloc HC_.out _, blk_new w2 _, below_alloc HB.out _⟩
          · refine value_ (w1 := w1.alloc (.cells #[.int .i64 m] 3)) (v := .slice (some ⟨w1.heap.size, 0, none⟩) 1 1) (by rfl) rfl ?_ ?_
            · first | (go_simp; done) | (go_simp; rfl)
            refine hK.out _ _ ⟨pw_cell_below (below_alloc (Below.refl _ _) _) hHeld.1, pw_cell_below (below_alloc (Below.refl _ _) _) hHeld.2.1, pw_cell_below (below_alloc (Below.refl _ _) _) hHeld.2.2⟩ (fun hHeld => ?_)
            clear hK K
            refine norm_ (a' := ?_) ?_ ?_
            rotate_left
            · show Act.put _ (some 41) _ = _
              simp only [Act.put, List.setIfInBounds_toArray, List.set_cons_zero, List.set_cons_succ, i64_w, i32_w]
              rfl
            refine one_ (i := 2) (N := some 39) #[true, true, true, true, true, false, false, false] rfl rfl (by kernel_rfl) (by decide) (fun K hK => ?_)
            refine goes_ Try.func74 (by kernel_rfl) rfl #[.slice (some ad1) l.length c] (by rfl) rfl rfl (by (try simp only [List.map_toArray, List.map_cons, List.map_nil]); first | done | rfl | (simp only [List.length_drop, List.length_take]; rfl)) ?_
            refine (HK.out _ (by repeat (first | (with_reducible first | exact HB.out | apply below_alloc | apply pw_below_drewN | apply below_drew1) | exact HB.out))).mono ?_
            rintro e_ w2 ⟨v1, rfl, ho, hb⟩
            refine ⟨_, rfl, ?_⟩
            refine hK.out _ _ ⟨pw_cell_below hb hHeld.1, pw_cell_below hb hHeld.2.1, pw_cell_below hb hHeld.2.2⟩ (fun hHeld => ?_)
            clear hK K
            exact hcont ⟨v1, w1.heap.size⟩ _ ⟨hHeld, Kd.R_lower ho (below_alloc HB.out (.cells #[.int .i64 m] 3)).size, blk_below (blk_new w1 _) hb, below_step (below_alloc HB.out _) hb⟩
        · have hnn : n - i = 0 := by have := HN.out; omega
          have h1 := HA.out
          rw [hnn, impl_firstSparse.loop] at h1
          obtain rfl := Option.some.inj h1
          have hlb : decide (m < e) = false := decide_eq_false hlt
          clear h1 HA
          go_wp2
          go_ret
          exact ⟨.slice none 0 0, rfl, Kd.R_nil _ _ _ _ _, (by first | rfl | exact fun _ => rfl), HB.out⟩
set_option maxRecDepth 100000 in
set_option maxHeartbeats 8000000 in
theorem impl_firstSparse.calls (k : Nat) (a0 : Int) (r1 : List Int) (r2 : Bool) (w : World) (h : impl_firstSparse.f k a0 = some (r1, r2)) :
    Calls Try.prog 67 #[.int .i64 a0] w fun e w' => ∃ v0_ : Value, e = .returned (.tuple #[v0_, .bool r2]) ∧ Kd.R (Kd.int .i64) 3 w' w.heap.size (fun _ => True) v0_ r1 ∧ Below w.heap.size w w' := by
  have hu := Try.underlying22
  have qn := fun (w_ : World) (a_ : Option Addr) (n_ c_ : Nat) => impl_firstSparse.neq_nil w_ a_ n_ c_
  have qs := fun (W : World) (c_ : Array Value) => impl_firstSparse.store_put W c_
  obtain ⟨t, h1, h2⟩ := Option.bind_eq_some_iff.1 h
  clear h
  have HW := Aside0.mk (fun W => impl_within.calls a0 2 6 t W h1)
  clear h1
  cases t with
  | false =>
    obtain ⟨rfl, rfl⟩ : [] = r1 ∧ false = r2 := by simpa using h2
    clear h2
    go_enter Try.func67, Try.ntmps67
    go_wp2_with (go_at_call 80; refine (HW.out _).mono ?_; rintro e_ w1 ⟨rfl, q_, rfl⟩)
    go_ret2
    exact ⟨_, rfl, Kd.R_nil _ _ _ _ _, pw_below_drewN (below_alloc (Below.refl _ _) _) _⟩
  | true =>
    rw [if_pos rfl] at h2
    have ha : 2 ≤ a0 ∧ a0 ≤ 6 := by
      apply Classical.byContradiction; intro hn; rw [if_neg hn] at h2; cases h2
    rw [if_pos ha] at h2
    have HA0 := Aside0.mk ha
    have H2 := Aside0.mk h2
    clear h2 ha
    go_enter Try.func67, Try.ntmps67
    go_wp2_with (go_at_call 80; refine (HW.out _).mono ?_; rintro e_ w1 ⟨rfl, q_, rfl⟩)
    go_loopg [4] k (fun kq v4 wr => ∃ (e : Int) (be : Nat), v4 = .pointer (some ⟨be, 0, none⟩) ∧ Aside0 (1 ≤ e) ∧ Aside0 (impl_firstSparse.l0 (a0 - 2).toNat kq e = some (r1, r2)) ∧ Aside0 (kq ≤ k) ∧ Aside0 (wr.heap[be]? = some (.cells #[.int .i64 e] 3 (0, 0))) ∧ Aside0 (wr.heap[w.heap.size]? = some (.cells #[.int .i64 a0] 3 (0, 0))) ∧ Aside0 (Below w.heap.size w wr))
    case atStart => exact ⟨1, _, rfl, ⟨by omega⟩, H2, ⟨Nat.le_refl _⟩, ⟨by rw [show w.heap.size + 1 = ((w.alloc (.cells #[.int .i64 a0] 3)).drewN q_).heap.size from (World.size_alloc _ _).symm]; exact blk_new _ _⟩, ⟨blk_alloc (blk_drewN (blk_new _ _) _) _⟩, ⟨below_alloc (pw_below_drewN (below_alloc (Below.refl _ _) _) _) _⟩⟩
    case round =>
      clear H2
      obtain ⟨e, be, rfl, HE, HL, HK, BKe, BKm, HB⟩ := hrel
      cases gk with
      | zero => exact absurd HL.out (by simp [impl_firstSparse.l0])
      | succ k1 =>
        have h1 := HL.out
        rw [impl_firstSparse.l0] at h1
        have he : e ≤ 60 := by
          apply Classical.byContradiction; intro hn; rw [if_neg hn] at h1; cases h1
        rw [if_pos he] at h1
        obtain ⟨r, hr, h3⟩ := Option.bind_eq_some_iff.1 h1
        have HP := Aside0.mk hr
        have H3 := Aside0.mk h3
        have hwe : wrap64 (e + 1) = e + 1 := by have := HE.out; unfold wrap64; omega
        have HE6 := Aside0.mk he
        clear HL h1 hr h3 he
        obtain ⟨y, hy⟩ : ∃ y_ : List Int, y_ = ([0] : List Int) := ⟨_, rfl⟩
        have Ny := Aside0.mk hy
        rw [← hy] at HP
        clear hy
        have h3 := H3.out
        by_cases hr0 : r = []
        · rw [if_pos hr0] at h3
          have H4 := Aside0.mk h3
          clear h3 H3
          go_wp2_with (first | ((with_reducible refine gate_dst (N := 14) rfl ?_); refine Kd.R_lit (Kd.int .i64) _ 3 ?hg (N := 14) ?hd (xs := ([0] : List Int)) (inner := [.int .i64 0]) (ok := fun _ => True) (okp := fun _ => True) ?hr ?hp (fun _ hk => hk) trivial (Below.refl _ _) (Nat.le_refl _) (by simp) ?_; (case hd => rfl); (case hg => rfl); (case hr => first | (go_simp; done) | (go_simp; rfl)); (case hp => exact (Reps.one (show Kd.M (Kd.int .i64) _ _ _ 0 [.int .i64 0] from rfl) (Reps.none _ _))); intro v9 w5 ho hb hg_ hnew_; clear hg_ hnew_; rw [← Ny.out] at ho; have HY := Aside0.mk ho; have HB5 := Aside0.mk hb; clear ho hb; obtain ⟨A9, c9, rfl⟩ := Kd.R_slice HY.out) | (go_at_call 83; refine (impl_firstSparse.put_calls a0 e w.heap.size be wr.heap.size ⟨by have := HA0.out; omega, by have := HE6.out; omega⟩ (a0 - 2).toNat y r A9 c9 w5 HP.out (by rw [Ny.out]; have := HA0.out; simp; omega) ⟨pw_cell_below HB5.out ((blk_cell (blk_alloc BKm.out _) 0).trans rfl), pw_cell_below HB5.out ((blk_cell (blk_alloc BKe.out _) 0).trans rfl), pw_cell_below HB5.out ((blk_cell (blk_new _ _) 0).trans rfl)⟩ (Kd.R_reads' HY.out).2.2 (Kd.R_reads' HY.out).2.1).mono ?_; rintro e_ w6 ⟨v3, rfl, hv, hnil, hb⟩; have n0_ := Aside0.mk (blk_below (blk_below (blk_alloc BKe.out _) HB5.out) hb); have n1_ := Aside0.mk (blk_below (blk_below (blk_alloc BKm.out _) HB5.out) hb); have n2_ := Aside0.mk (below_step (below_step (below_alloc HB.out _) HB5.out) hb); have HV := Aside0.mk (Kd.R_lower hv (below_size (below_step (below_alloc HB.out _) HB5.out))); obtain rfl := hnil hr0; clear HB BKe BKm hv hnil hb; have BKe := n0_; have BKm := n1_; have HB := n2_; clear n0_ n1_ n2_; have hce := (blk_cell BKe.out 0).trans rfl; have hcf := blk_frozen BKe.out 0))
          go_roundg k1
          case measure => have := HK.out; omega
          case rel => exact ⟨e + 1, _, rfl, ⟨by have := HE.out; omega⟩, H4, ⟨by have := HK.out; omega⟩, ⟨blk_new _ _⟩, ⟨blk_alloc BKm.out _⟩, ⟨below_alloc HB.out _⟩⟩
        · rw [if_neg hr0] at h3
          obtain ⟨rfl, rfl⟩ := Prod.mk.inj (Option.some.inj h3)
          have HR0 := Aside0.mk hr0
          clear h3 H3 hr0
          go_wp2_with (first | ((with_reducible refine gate_dst (N := 14) rfl ?_); refine Kd.R_lit (Kd.int .i64) _ 3 ?hg (N := 14) ?hd (xs := ([0] : List Int)) (inner := [.int .i64 0]) (ok := fun _ => True) (okp := fun _ => True) ?hr ?hp (fun _ hk => hk) trivial (Below.refl _ _) (Nat.le_refl _) (by simp) ?_; (case hd => rfl); (case hg => rfl); (case hr => first | (go_simp; done) | (go_simp; rfl)); (case hp => exact (Reps.one (show Kd.M (Kd.int .i64) _ _ _ 0 [.int .i64 0] from rfl) (Reps.none _ _))); intro v9 w5 ho hb hg_ hnew_; clear hg_ hnew_; rw [← Ny.out] at ho; have HY := Aside0.mk ho; have HB5 := Aside0.mk hb; clear ho hb; obtain ⟨A9, c9, rfl⟩ := Kd.R_slice HY.out) | (go_at_call 83; refine (impl_firstSparse.put_calls a0 e w.heap.size be wr.heap.size ⟨by have := HA0.out; omega, by have := HE6.out; omega⟩ (a0 - 2).toNat y r A9 c9 w5 HP.out (by rw [Ny.out]; have := HA0.out; simp; omega) ⟨pw_cell_below HB5.out ((blk_cell (blk_alloc BKm.out _) 0).trans rfl), pw_cell_below HB5.out ((blk_cell (blk_alloc BKe.out _) 0).trans rfl), pw_cell_below HB5.out ((blk_cell (blk_new _ _) 0).trans rfl)⟩ (Kd.R_reads' HY.out).2.2 (Kd.R_reads' HY.out).2.1).mono ?_; rintro e_ w6 ⟨v3, rfl, hv, hnil, hb⟩; have n0_ := Aside0.mk (blk_below (blk_below (blk_alloc BKe.out _) HB5.out) hb); have n1_ := Aside0.mk (blk_below (blk_below (blk_alloc BKm.out _) HB5.out) hb); have n2_ := Aside0.mk (below_step (below_step (below_alloc HB.out _) HB5.out) hb); have HV := Aside0.mk (Kd.R_lower hv (below_size (below_step (below_alloc HB.out _) HB5.out))); obtain ⟨g3, cap3, rfl, hq1, hq2, hq3⟩ := Kd.R_form HV.out (List.length_pos_iff.2 HR0.out); clear HB BKe BKm hv hnil hb hq1 hq2 hq3; have BKe := n0_; have BKm := n1_; have HB := n2_; clear n0_ n1_ n2_))
          go_ret2
          exact ⟨_, rfl, HV.out, HB.out⟩

end Go.Proofs.Ytlkgojgmgdeieaa.Fs
