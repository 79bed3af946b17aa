/- Functions of the program and of the reference as Lean functions, and the contracts of their calls: laid by a program of this repo (wip/gen.py), in part by hand. -/
import Derived.Test.YtpekdmadmggbpaaBcx0
import Derived.Test.YtpekdmadmggbpaaBcx1
import Derived.Test.YtpekdmadmggbpaaBcx2
import Derived.Test.YtpekdmadmggbpaaBcx3
namespace Go.Proofs.Ytpekdmadmggbpaa.Bc
open Go.RowKit Go.Proofs.YtpekdmadmggbpaaW.PrintWords Go.Proofs.YtpekdmadmggbpaaW.PrintLast Go.Proofs.YtpekdmadmggbpaaW.PrintMore
attribute [local go_sem] max2_int min2_int max_two min_two max_three min_three max_four min_four   -- for this text's walks alone
set_option linter.unusedVariables false
set_option linter.unusedSimpArgs false

/-! ### laws_markIntSS: function 43 -/
/-- Each row marked; the last mark and the marked rows. -/
def laws_markIntSS.g (k : Nat) : List (List Int) → Int → Option (Int × List (List Int))
  | [], a => some (a, [])
  | x :: t, a => (laws_markIntS.f k x a).bind fun r => (laws_markIntSS.g k t r.1).bind fun s => some (s.1, r.2 :: s.2)
def laws_markIntSS.f (k : Nat) (l0 : List (List Int)) (a1 : Int) : Option (Int × List (List Int)) := if l0.length ≤ 1000000000 then laws_markIntSS.g k l0 a1 else none
theorem laws_markIntSS.g_mono (k : Nat) : ∀ (l : List (List Int)) (a : Int), LeO (laws_markIntSS.g k l a) (laws_markIntSS.g (k + 1) l a)
  | [], _ => LeO.refl _
  | x :: t, a => LeO.bind (laws_markIntS.mono _ _ _) (fun r => LeO.bind (laws_markIntSS.g_mono k t _) (fun _ => LeO.refl _))
theorem laws_markIntSS.mono : ∀ a0 a1 k, LeO (laws_markIntSS.f k a0 a1) (laws_markIntSS.f (k + 1) a0 a1) := by
  intro a0 a1 k
  unfold laws_markIntSS.f
  exact LeO.ite (laws_markIntSS.g_mono _ _ _) (LeO.refl _)
theorem laws_markIntSS.set_at (done : List (List Int)) (x y : List Int) (t : List (List Int)) : (done ++ x :: t).set done.length y = (done ++ [y]) ++ t := by simp
/-- One row lent out, marked, and given back. -/
theorem laws_markIntSS.lend {w : World} {base : Nat} {P : Nat → Prop} {ad : Addr} {n cap : Nat} {l : List (List Int)} (h : Kd.S (Kd.slice 3 (Kd.int .i64)) 46 w base P (.slice (some ad) n cap) l) (i : Nat) (hi : i < n) (hl : i < l.length) :
    ∃ u : Value, w.cell? (ad.add i) = some u ∧ Kd.R (Kd.int .i64) 3 w base (fun k => some k = u.ownBlock) u l[i] ∧ (∀ k, some k = u.ownBlock → P k) ∧
      ∀ (w1 : World) (x' : List Int) (ok' : Nat → Prop), Kept w w1 (fun k => some k = u.ownBlock) → Kd.R (Kd.int .i64) 3 w1 base ok' u x' → Kd.S (Kd.slice 3 (Kd.int .i64)) 46 w1 base P (.slice (some ad) n cap) (l.set i x') := by
  obtain ⟨g, rfl⟩ := Kd.R_head (Kd.S_R h)
  obtain ⟨oki, c, hcl, hM, hcc, hoki, hH⟩ := Kd.S_lend h ([] : List Int) (i : Int) (by omega) (by omega)
  obtain ⟨u, rfl, hR⟩ := hM
  rw [Int.toNat_natCast] at hcc hR
  have hx : l.getD i ([] : List Int) = l[i] := by simp [List.getD, hl]
  rw [hx] at hR
  refine ⟨u, ?_, Kd.R_tight rfl hR, fun k hk => (hoki k (hR.1 k hk.symm)).1, fun w1 x' ok' hk hR' => ?_⟩
  · have h9 : w.cell? ⟨g, i * 1 + 0, none⟩ = some u := hcc 0 u rfl
    rw [Nat.mul_one, Nat.add_zero] at h9
    rw [add_at, Nat.zero_add]
    exact h9
  · have := Kd.H_back (Kd.H_step hH (fun k ho hno hlt => hk.2 k hlt (fun hS => hno (hR.1 k hS.symm)))) (x' := x') ⟨u, rfl, Kd.R_mono (Kd.R_tight rfl hR') (fun k hk' => hR.1 k hk'.symm)⟩ (fun _ hk => hk)
    rw [Int.toNat_natCast] at this
    exact this
set_option maxHeartbeats 8000000 in
set_option maxRecDepth 100000 in
theorem laws_markIntSS.calls (k : Nat) (P : Nat → Prop) (v : Value) (l0 : List (List Int)) (a1 r1 : Int) (r2 : List (List Int)) (w0 w : World) (hB : Below w0.heap.size w0 w) (ho : Kd.S (Kd.slice 3 (Kd.int .i64)) 46 w w0.heap.size P v l0) (h : laws_markIntSS.f k l0 a1 = some (r1, r2)) :
    Calls Try.prog 43 #[v, .int .i64 a1] w fun e w' => e = .returned (.int .i64 r1) ∧ Kd.S (Kd.slice 3 (Kd.int .i64)) 46 w' w0.heap.size P v r2 ∧ Below w0.heap.size w0 w' ∧ Kept w w' P ∧ r2.length = l0.length := by
  have hn : l0.length ≤ 1000000000 := by
    apply Classical.byContradiction; intro hn; simp only [laws_markIntSS.f, if_neg hn] at h; cases h
  unfold laws_markIntSS.f at h
  rw [if_pos hn] at h
  obtain ⟨A, c, rfl⟩ := Kd.R_slice (Kd.S_R ho)
  have HN := Aside0.mk hn
  have H0 := Aside0.mk h
  have HO := Aside0.mk ho
  have HB := Aside0.mk hB
  have HK := Aside0.mk (Kept.refl w P)
  clear h hn ho hB
  go_enter Try.func43, Try.ntmps43
  go_wp2
  go_loopg [1, 5] l0.length (fun gg v1 v5 wr => ∃ (i : Nat) (a : Int) (done todo ys : List (List Int)), v1 = .int .i64 a ∧ v5 = .int .i64 i ∧ todo.length ≤ gg ∧ Aside0 (done.length = i ∧ (done ++ todo).length = l0.length) ∧ Aside0 (laws_markIntSS.g k todo a = some (r1, ys) ∧ done ++ ys = r2) ∧ Aside0 (Kd.S (Kd.slice 3 (Kd.int .i64)) 46 wr w0.heap.size P (.slice A l0.length c) (done ++ todo)) ∧ Aside0 (Below w0.heap.size w0 wr) ∧ Aside0 (Kept w wr P))
  case atStart => exact ⟨0, a1, [], l0, r2, rfl, rfl, Nat.le_refl _, ⟨rfl, rfl⟩, ⟨H0.out, rfl⟩, HO, HB, HK⟩
  case round =>
    clear H0 HO HB HK
    obtain ⟨i, a, done, todo, ys, rfl, rfl, hg, HL, HA, HO, HB, HK⟩ := hrel
    cases todo with
    | nil =>
      have hil : ¬ (i : Int) < (l0.length : Int) := by have := HL.out; simp at this; omega
      obtain ⟨e1, e2⟩ := HA.out
      unfold laws_markIntSS.g at e1
      have e3 := Option.some.inj e1
      obtain ⟨rfl, rfl⟩ : a = r1 ∧ [] = ys := ⟨congrArg Prod.fst e3, congrArg Prod.snd e3⟩
      subst e2
      clear e1 e3 HA
      have HO' := Aside0.mk (show Kd.S (Kd.slice 3 (Kd.int .i64)) 46 wr w0.heap.size P (.slice A l0.length c) done by have := HO.out; rw [List.append_nil] at this; exact this)
      have HL' := Aside0.mk (show done.length = l0.length by have := HL.out.2; rw [List.append_nil] at this; exact this)
      clear HO HL
      go_wp2
      go_ret
      exact ⟨rfl, by first | exact HO'.out | (rw [List.append_nil]; exact HO'.out), HB.out, HK.out, by first | exact HL'.out | (rw [List.append_nil]; exact HL'.out)⟩
    | cons x t =>
      have hil : (i : Int) < (l0.length : Int) := by have := HL.out; simp at this; omega
      have hA : ∃ ad, A = some ad := by
        have := (Kd.R_reads' (Kd.S_R HO.out)).2.2
        obtain ⟨ad, e, _⟩ := this.2.2 (by rw [List.length_append, List.length_cons]; omega)
        exact ⟨ad, e⟩
      obtain ⟨ad, rfl⟩ := hA
      obtain ⟨e1, e2⟩ := HA.out
      clear HA
      rw [laws_markIntSS.g] at e1
      obtain ⟨⟨b, y⟩, h1, h2⟩ := Option.bind_eq_some_iff.1 e1
      obtain ⟨⟨b2, ys2⟩, h3, h4⟩ := Option.bind_eq_some_iff.1 h2
      have h5 := Option.some.inj h4
      obtain ⟨rfl, rfl⟩ : b2 = r1 ∧ y :: ys2 = ys := ⟨congrArg Prod.fst h5, congrArg Prod.snd h5⟩
      have H1 := Aside0.mk h1
      have H3 := Aside0.mk (And.intro h3 (show (done ++ [y]) ++ ys2 = r2 by rw [← e2]; simp))
      clear e1 h1 h2 h3 h4 h5 e2
      obtain ⟨u, hcell, hR, hP, hback⟩ := laws_markIntSS.lend HO.out i (by omega) (by have := HL.out; simp at this ⊢; omega)
      have hx : (done ++ x :: t)[i]'(by have := HL.out; simp at this ⊢; omega) = x := by
        have := HL.out.1
        subst this
        simp
      rw [hx] at hR
      have hset : ∀ y : List Int, (done ++ x :: t).set i y = (done ++ [y]) ++ t := fun y => by rw [← HL.out.1]; exact laws_markIntSS.set_at done x y t
      have HR := Aside0.mk hR
      have HP := Aside0.mk hP
      have HBK := Aside0.mk hback
      have HSET := Aside0.mk hset
      have HL2 := Aside0.mk (show (done ++ [y]).length = i + 1 ∧ ((done ++ [y]) ++ t).length = l0.length by have := HL.out; simp at this ⊢; omega)
      have hw := Aside0.mk (show wrap64 ((i : Int) + 1) = ((i + 1 : Nat) : Int) by have := HN.out; unfold wrap64; omega)
      clear hR hP hback hset hx HO HL
      go_wp2_with (go_at_call 62; (with_reducible refine (laws_markIntS.calls k (fun k_ => some k_ = u.ownBlock) u x a b y w0 _ ?side1 ?side2 H1.out).mono ?_); (case side1 => exact HB.out); (case side2 => exact HR.out); rintro e w5 ⟨rfl, hr5, hb5, hk5⟩; have n0_ := Aside0.mk (show Kd.S (Kd.slice 3 (Kd.int .i64)) 46 w5 w0.heap.size P (.slice (some ad) l0.length c) ((done ++ [y]) ++ t) by rw [← HSET.out y]; exact HBK.out w5 y _ hk5 hr5); have n1_ := Aside0.mk hb5; have n2_ := Aside0.mk (Kept.then_ HK.out hk5 (fun k_ hk_ => .inl (HP.out k_ hk_))); clear HB HK hr5 hb5 hk5; have HO := n0_; have HB := n1_; have HK := n2_; clear n0_ n1_ n2_)
      go_roundg t.length
      case measure => simp at hg; omega
      case rel => exact ⟨i + 1, b, done ++ [y], t, ys2, rfl, by first | rfl | rw [hw.out] | go_num, Nat.le_refl _, HL2, H3, HO, HB, HK⟩

/-! ### laws_markCards: function 17 -/
def laws_markCards.f (k : Nat) (a0_0 : Int) (l0_1 : List (List Int)) (a1 : Int) : Option (Int) := (laws_markIntSS.f k l0_1 a1).bind fun r => some r.1
theorem laws_markCards.mono : ∀ a0 a1 a2 k, LeO (laws_markCards.f k a0 a1 a2) (laws_markCards.f (k + 1) a0 a1 a2) := by
  intro a0 a1 a2 k
  unfold laws_markCards.f
  exact LeO.bind (laws_markIntSS.mono _ _ _) (fun _ => LeO.refl _)
set_option maxHeartbeats 8000000 in
set_option maxRecDepth 100000 in
theorem laws_markCards.calls (k : Nat) (P : Nat → Prop) (a0_0 : Int) (v : Value) (l0_1 : List (List Int)) (a1 r1 : Int) (w0 w : World) (hB : Below w0.heap.size w0 w) (ho : Kd.S (Kd.slice 3 (Kd.int .i64)) 46 w w0.heap.size P v l0_1) (h : laws_markCards.f k a0_0 l0_1 a1 = some r1) :
    Calls Try.prog 17 #[.agg #[.int .i64 a0_0, v], .int .i64 a1] w fun e w' => e = .returned (.int .i64 r1) ∧ (∃ l' : List (List Int), l'.length = l0_1.length ∧ Kd.S (Kd.slice 3 (Kd.int .i64)) 46 w' w0.heap.size P v l') ∧ Below w0.heap.size w0 w' ∧ Kept w w' P := by
  have hu27 := Try.underlying27
  obtain ⟨⟨b, r2⟩, h1, h2⟩ := Option.bind_eq_some_iff.1 h
  obtain rfl : b = r1 := Option.some.inj h2
  clear h h2
  obtain ⟨A, c, rfl⟩ := Kd.R_slice (Kd.S_R ho)
  have HS := Aside0.mk (Kd.S_alloc ho (.cells #[.int .i64 a0_0, .slice A l0_1.length c] 27))
  have HB1 := Aside0.mk (hB.alloc (o := .cells #[.int .i64 a0_0, .slice A l0_1.length c] 27) hB.size)
  have HK1 := Aside0.mk (Kept.of_below ((Below.refl w.heap.size w).alloc (Nat.le_refl _) (.cells #[.int .i64 a0_0, .slice A l0_1.length c] 27)) P)
  have H1 := Aside0.mk h1
  clear h1 ho hB
  go_enter Try.func17, Try.ntmps17
  go_wp2_with (go_at_call 43; (with_reducible refine (laws_markIntSS.calls k P (.slice A l0_1.length c) l0_1 a1 b r2 w0 _ ?side1 ?side2 H1.out).mono ?_); (case side1 => exact HB1.out); (case side2 => exact HS.out); rintro e w5 ⟨rfl, hs5, hb5, hk5, hl5⟩; have n0_ := Aside0.mk hs5; have n1_ := Aside0.mk hb5; have n2_ := Aside0.mk (Kept.then_ HK1.out hk5 (fun k_ hk_ => .inl hk_)); have n3_ := Aside0.mk hl5; clear hs5 hb5 hk5 hl5 HS HB1 HK1)
  go_ret
  exact ⟨rfl, ⟨r2, n3_.out, n0_.out⟩, n1_.out, n2_.out⟩
theorem laws_markCards.R_keep {W W2 : World} {base : Nat} {ok S : Nat → Prop} {u : Value} {xs : List Int} (h : Kd.R (Kd.int .i64) 3 W base ok u xs) (hk : Kept W W2 S) (hne : ∀ k, some k = u.ownBlock → ¬ S k) : Kd.R (Kd.int .i64) 3 W2 base ok u xs :=
  Kd.R_mono (Kd.R_kept (Kd.R_tight rfl h) hk hne) (fun k hk' => h.1 k hk'.symm)
theorem laws_markCards.box_keep {W W2 : World} {g base : Nat} {cs : Array Value} {t : TypeId} {ok : Nat → Prop} {L : List Nat} (h : W.heap[g]? = some (.cells cs t (0, 0))) (hk : Kept W W2 (fun k => ok k ∧ base ≤ k ∧ k < W.heap.size ∧ ∃ q, q ∈ L ∧ ∃ cells, W.heap[k]? = some (.cells cells q (0, 0)))) (ht : ∀ q ∈ L, q ≠ t) : W2.heap[g]? = some (.cells cs t (0, 0)) := by
  refine (hk.2 g (blk_lt h) ?_).trans h
  rintro ⟨_, _, _, q, hq, cells, hc⟩
  rw [h] at hc
  injection hc with hc
  injection hc with _ h2
  exact ht q hq h2.symm

/-! ### laws_heldIntS: function 63 -/
def laws_heldIntS.l0 : Nat → List Int → Int → Int → Option (Int)
  | 0, _, _, _ => none
  | k + 1, x0, x1, x5 => if x5 < (x0.length : Int) then (if 0 ≤ x5 then (if (rd x0 x5) = x1 then (laws_heldIntS.l0 k x0 (wrap64 (x1 + 1)) (wrap64 (x5 + 1))) else (some (-1))) else (none)) else (some x1)
def laws_heldIntS.f (k : Nat) (l0 : List Int) (a1 : Int) : Option (Int) := laws_heldIntS.l0 k l0 a1 0
theorem laws_heldIntS.mono_l : ∀ k, (∀ y0 y1 y2, LeO (laws_heldIntS.l0 k y0 y1 y2) (laws_heldIntS.l0 (k + 1) y0 y1 y2))
  | 0 => fun _ _ _ r h => by simp [laws_heldIntS.l0] at h
  | k + 1 => by
    have ih0 := laws_heldIntS.mono_l k
    · intro y0 y1 y2
      unfold laws_heldIntS.l0
      repeat' first
      | (with_reducible exact ih0 _ _ _)
      | (with_reducible exact LeO.refl _)
      | (with_reducible exact LeO.none _)
      | (with_reducible refine LeO.ite ?_ ?_)
      | (with_reducible refine LeO.bind ?_ (fun _ => ?_))
      | exact ih0 _ _ _
      | exact LeO.none _
      | refine LeO.ite ?_ ?_
      | refine LeO.bind ?_ (fun _ => ?_)
theorem laws_heldIntS.mono : ∀ a0 a1 k, LeO (laws_heldIntS.f k a0 a1) (laws_heldIntS.f (k + 1) a0 a1) := by
  intro a0 a1 k
  have ih0 := laws_heldIntS.mono_l k
  unfold laws_heldIntS.f
  repeat' first
      | (with_reducible exact ih0 _ _ _)
      | (with_reducible exact LeO.refl _)
      | (with_reducible exact LeO.none _)
      | (with_reducible refine LeO.ite ?_ ?_)
      | (with_reducible refine LeO.bind ?_ (fun _ => ?_))
      | exact ih0 _ _ _
      | exact LeO.none _
      | refine LeO.ite ?_ ?_
      | refine LeO.bind ?_ (fun _ => ?_)
set_option maxHeartbeats 8000000 in
set_option maxRecDepth 100000 in
theorem laws_heldIntS.calls (k : Nat) (A0 : Option Addr) (c0 : Nat) (l0 : List Int) (a1 : Int) (r : Int) (w : World) (hr0 : Kd.C (Kd.int .i64) w A0 l0.length l0) (hc0 : l0.length ≤ c0) (h : laws_heldIntS.f k l0 a1 = some r) :
    Calls Try.prog 63 #[.slice A0 l0.length c0, .int .i64 a1] w fun e w' => e = .returned (.int .i64 r) ∧ Drawn0 w w' := by
  have HR0 := Aside0.mk hr0
  have HC0 := Aside0.mk hc0
  clear hr0 hc0
  have H : (laws_heldIntS.l0 k l0 a1 0) = some r := h
  clear h
  have H' := Aside0.mk H
  clear H
  go_enter Try.func63, Try.ntmps63
  go_wp2
  go_loopg [1, 5] k (fun kq v1 v5 w' => ∃ (x1_1 : Int) (x5_1 : Int), v1 = .int .i64 x1_1 ∧ v5 = .int .i64 x5_1 ∧ Aside0 (laws_heldIntS.l0 kq l0 x1_1 x5_1 = some r) ∧ Aside0 (kq ≤ k) ∧ Drawn0 w w')
  case atStart => exact ⟨(a1), (0), (by first | rfl | (simp; done) | (simp [*]; done)), (by first | rfl | (simp; done) | (simp [*]; done)), H', ⟨Nat.le_refl _⟩, by repeat (first | exact Drawn0.refl _ | apply Drawn0.step)⟩
  case round =>
    clear H'
    try clear p2
    obtain ⟨x1_1, x5_1, rfl, rfl, HA, HK1, ⟨m1, rfl⟩⟩ := hrel
    cases gk with
    | zero => exact absurd HA.out (by simp [laws_heldIntS.l0])
    | succ k1 =>
      have H := HA.out
      clear HA
      simp only [laws_heldIntS.l0] at H
      by_cases c3 : x5_1 < (l0.length : Int)
      · rw [if_pos c3] at H
        have c3b0 : decide (x5_1 < (l0.length : Int)) = true := decide_eq_true c3
        clear c3
        by_cases c4 : 0 ≤ x5_1
        · rw [if_pos c4] at H
          have c4b0 : decide (0 ≤ x5_1) = true := decide_eq_true c4
          clear c4
          by_cases c5 : (rd l0 x5_1) = x1_1
          · rw [if_pos c5] at H
            have c5b0 : ((rd l0 x5_1) == x1_1) = true := beq_iff_eq.mpr c5
            have c5b1 : ((rd l0 x5_1) != x1_1) = false := bne_eq_false_iff_eq.mpr c5
            clear c5
            have H' := Aside0.mk H
            clear H
            have p123 : 0 ≤ (x5_1 : Int) := of_decide_eq_true (by first | (with_reducible assumption) | assumption)
            have q123 : x5_1 < (l0.length : Int) := of_decide_eq_true (by first | (with_reducible assumption) | assumption)
            obtain ⟨ad123, e123, hx123_0⟩ := Kd.at_int HR0.out x5_1 p123 q123
            cases e123
            replace p123 := eq_true p123
            replace q123 := eq_true q123
            go_wp2
            go_roundg k1
            case measure => have := HK1.out; omega
            case rel => exact ⟨(wrap64 (x1_1 + 1)), (wrap64 (x5_1 + 1)), (by first | rfl | (simp; done) | (simp [*]; done)), (by first | rfl | (simp; done) | (simp [*]; done)), H', ⟨by have := HK1.out; omega⟩, by repeat (first | exact Drawn0.refl _ | apply Drawn0.step)⟩
          · rw [if_neg c5] at H
            have c5b0 : ((rd l0 x5_1) == x1_1) = false := beq_eq_false_iff_ne.mpr c5
            have c5b1 : ((rd l0 x5_1) != x1_1) = true := bne_iff_ne.mpr c5
            obtain rfl := Option.some.inj H
            have p123 : 0 ≤ (x5_1 : Int) := of_decide_eq_true (by first | (with_reducible assumption) | assumption)
            have q123 : x5_1 < (l0.length : Int) := of_decide_eq_true (by first | (with_reducible assumption) | assumption)
            obtain ⟨ad123, e123, hx123_0⟩ := Kd.at_int HR0.out x5_1 p123 q123
            cases e123
            replace p123 := eq_true p123
            replace q123 := eq_true q123
            go_wp2
            go_ret
            exact ⟨by first | rfl | (simp; done) | (simp [*]; done), by repeat (first | exact Drawn0.refl _ | apply Drawn0.step)⟩
        · rw [if_neg c4] at H
          exact absurd H (by simp)
      · rw [if_neg c3] at H
        have c3b0 : decide (x5_1 < (l0.length : Int)) = false := decide_eq_false c3
        clear c3
        obtain rfl := Option.some.inj H
        go_wp2
        go_ret
        exact ⟨by first | rfl | (simp; done) | (simp [*]; done), by repeat (first | exact Drawn0.refl _ | apply Drawn0.step)⟩

/-! ### laws_heldIntSS: function 44 -/
def laws_heldIntSS.l0 : Nat → List (List Int) → Int → Int → Option (Int)
  | 0, _, _, _ => none
  | k + 1, x0, x1, x5 => if x5 < (x0.length : Int) then (if 0 ≤ x5 then ((laws_heldIntS.f k (rd_L1 x0 x5) x1).bind fun t125 => (if t125 < 0 then (some (-1)) else (laws_heldIntSS.l0 k x0 t125 (wrap64 (x5 + 1))))) else (none)) else (some x1)
def laws_heldIntSS.f (k : Nat) (l0 : List (List Int)) (a1 : Int) : Option (Int) := laws_heldIntSS.l0 k l0 a1 0
theorem laws_heldIntSS.mono_l : ∀ k, (∀ y0 y1 y2, LeO (laws_heldIntSS.l0 k y0 y1 y2) (laws_heldIntSS.l0 (k + 1) y0 y1 y2))
  | 0 => fun _ _ _ r h => by simp [laws_heldIntSS.l0] at h
  | k + 1 => by
    have ih0 := laws_heldIntSS.mono_l k
    · intro y0 y1 y2
      unfold laws_heldIntSS.l0
      repeat' first
      | (with_reducible exact ih0 _ _ _)
      | (with_reducible exact laws_heldIntS.mono _ _ _)
      | (with_reducible exact LeO.refl _)
      | (with_reducible exact LeO.none _)
      | (with_reducible refine LeO.ite ?_ ?_)
      | (with_reducible refine LeO.bind ?_ (fun _ => ?_))
      | exact ih0 _ _ _
      | exact laws_heldIntS.mono _ _ _
      | exact LeO.none _
      | refine LeO.ite ?_ ?_
      | refine LeO.bind ?_ (fun _ => ?_)
theorem laws_heldIntSS.mono : ∀ a0 a1 k, LeO (laws_heldIntSS.f k a0 a1) (laws_heldIntSS.f (k + 1) a0 a1) := by
  intro a0 a1 k
  have ih0 := laws_heldIntSS.mono_l k
  unfold laws_heldIntSS.f
  repeat' first
      | (with_reducible exact ih0 _ _ _)
      | (with_reducible exact laws_heldIntS.mono _ _ _)
      | (with_reducible exact LeO.refl _)
      | (with_reducible exact LeO.none _)
      | (with_reducible refine LeO.ite ?_ ?_)
      | (with_reducible refine LeO.bind ?_ (fun _ => ?_))
      | exact ih0 _ _ _
      | exact laws_heldIntS.mono _ _ _
      | exact LeO.none _
      | refine LeO.ite ?_ ?_
      | refine LeO.bind ?_ (fun _ => ?_)
set_option maxHeartbeats 8000000 in
set_option maxRecDepth 100000 in
theorem laws_heldIntSS.calls (k : Nat) (A0 : Option Addr) (c0 : Nat) (l0 : List (List Int)) (a1 : Int) (r : Int) (w : World) (hr0 : Kd.C (Kd.slice 3 (Kd.int .i64)) w A0 l0.length l0) (hc0 : l0.length ≤ c0) (h : laws_heldIntSS.f k l0 a1 = some r) :
    Calls Try.prog 44 #[.slice A0 l0.length c0, .int .i64 a1] w fun e w' => e = .returned (.int .i64 r) ∧ Drawn0 w w' := by
  have HR0 := Aside0.mk hr0
  have HC0 := Aside0.mk hc0
  clear hr0 hc0
  have H : (laws_heldIntSS.l0 k l0 a1 0) = some r := h
  clear h
  have H' := Aside0.mk H
  clear H
  go_enter Try.func44, Try.ntmps44
  go_wp2
  go_loopg [1, 5] k (fun kq v1 v5 w' => ∃ (x1_1 : Int) (x5_1 : Int), v1 = .int .i64 x1_1 ∧ v5 = .int .i64 x5_1 ∧ Aside0 (laws_heldIntSS.l0 kq l0 x1_1 x5_1 = some r) ∧ Aside0 (kq ≤ k) ∧ Drawn0 w w')
  case atStart => exact ⟨(a1), (0), (by first | rfl | (simp; done) | (simp [*]; done)), (by first | rfl | (simp; done) | (simp [*]; done)), H', ⟨Nat.le_refl _⟩, by repeat (first | exact Drawn0.refl _ | apply Drawn0.step)⟩
  case round =>
    clear H'
    try clear p2
    obtain ⟨x1_1, x5_1, rfl, rfl, HA, HK1, ⟨m1, rfl⟩⟩ := hrel
    cases gk with
    | zero => exact absurd HA.out (by simp [laws_heldIntSS.l0])
    | succ k1 =>
      have H := HA.out
      clear HA
      simp only [laws_heldIntSS.l0] at H
      by_cases c3 : x5_1 < (l0.length : Int)
      · rw [if_pos c3] at H
        have c3b0 : decide (x5_1 < (l0.length : Int)) = true := decide_eq_true c3
        clear c3
        by_cases c4 : 0 ≤ x5_1
        · rw [if_pos c4] at H
          have c4b0 : decide (0 ≤ x5_1) = true := decide_eq_true c4
          clear c4
          replace H := Option.bind_eq_some_iff.mp H
          obtain ⟨t125, A50, H⟩ := H
          replace H : (if t125 < 0 then (some (-1)) else (laws_heldIntSS.l0 k1 l0 t125 (wrap64 (x5_1 + 1)))) = some r := H
          have A5 := Aside0.mk A50
          clear A50
          by_cases c6 : t125 < 0
          · rw [if_pos c6] at H
            have c6b0 : decide (t125 < 0) = true := decide_eq_true c6
            clear c6
            obtain rfl := Option.some.inj H
            have p124 : 0 ≤ (x5_1 : Int) := of_decide_eq_true (by first | (with_reducible assumption) | assumption)
            have q124 : x5_1 < (l0.length : Int) := of_decide_eq_true (by first | (with_reducible assumption) | assumption)
            obtain ⟨ad124, A124_0, c124_0, e124, hx124_0, hl124_0, hi124_0⟩ := at_L1 HR0.out x5_1 p124 q124
            cases e124
            have HR124_0 := Aside0.mk hi124_0
            have HC124_0 := Aside0.mk hl124_0
            clear hi124_0 hl124_0
            replace p124 := eq_true p124
            replace q124 := eq_true q124
            go_wp2_with (first | ((with_reducible refine gate_callee (f := 63) rfl ?_); refine goesL_ (some 17) rfl rfl Try.func63 (by kernel_rfl) rfl #[.slice A124_0 (rd_L1 l0 x5_1).length c124_0, .int .i64 x1_1] rfl (by (try simp only [List.map_toArray, List.map_cons, List.map_nil]); first | done | rfl | (simp only [List.length_drop, List.length_take]; rfl)) ?_; (with_reducible refine (laws_heldIntS.calls k1 _ _ (rd_L1 l0 x5_1) x1_1 t125 _ ?side1 ?side2 A5.out).mono ?_); (case side1 => repeat (first | exact HR124_0.out | (with_reducible refine Kd.C_alloc ?_ _) | (with_reducible refine Kd.C_drewN ?_ _) | (with_reducible refine Kd.C_drew ?_))); (case side2 => exact HC124_0.out); rintro e w' ⟨rfl, ⟨nd, rfl⟩⟩; refine ⟨_, rfl, ?_⟩))
            go_ret
            exact ⟨by first | rfl | (simp; done) | (simp [*]; done), by repeat (first | exact Drawn0.refl _ | apply Drawn0.step)⟩
          · rw [if_neg c6] at H
            have c6b0 : decide (t125 < 0) = false := decide_eq_false c6
            clear c6
            have H' := Aside0.mk H
            clear H
            have p124 : 0 ≤ (x5_1 : Int) := of_decide_eq_true (by first | (with_reducible assumption) | assumption)
            have q124 : x5_1 < (l0.length : Int) := of_decide_eq_true (by first | (with_reducible assumption) | assumption)
            obtain ⟨ad124, A124_0, c124_0, e124, hx124_0, hl124_0, hi124_0⟩ := at_L1 HR0.out x5_1 p124 q124
            cases e124
            have HR124_0 := Aside0.mk hi124_0
            have HC124_0 := Aside0.mk hl124_0
            clear hi124_0 hl124_0
            replace p124 := eq_true p124
            replace q124 := eq_true q124
            go_wp2_with (first | ((with_reducible refine gate_callee (f := 63) rfl ?_); refine goesL_ (some 17) rfl rfl Try.func63 (by kernel_rfl) rfl #[.slice A124_0 (rd_L1 l0 x5_1).length c124_0, .int .i64 x1_1] rfl (by (try simp only [List.map_toArray, List.map_cons, List.map_nil]); first | done | rfl | (simp only [List.length_drop, List.length_take]; rfl)) ?_; (with_reducible refine (laws_heldIntS.calls k1 _ _ (rd_L1 l0 x5_1) x1_1 t125 _ ?side1 ?side2 A5.out).mono ?_); (case side1 => repeat (first | exact HR124_0.out | (with_reducible refine Kd.C_alloc ?_ _) | (with_reducible refine Kd.C_drewN ?_ _) | (with_reducible refine Kd.C_drew ?_))); (case side2 => exact HC124_0.out); rintro e w' ⟨rfl, ⟨nd, rfl⟩⟩; refine ⟨_, rfl, ?_⟩))
            go_roundg k1
            case measure => have := HK1.out; omega
            case rel => exact ⟨(t125), (wrap64 (x5_1 + 1)), (by first | rfl | (simp; done) | (simp [*]; done)), (by first | rfl | (simp; done) | (simp [*]; done)), H', ⟨by have := HK1.out; omega⟩, by repeat (first | exact Drawn0.refl _ | apply Drawn0.step)⟩
        · rw [if_neg c4] at H
          exact absurd H (by simp)
      · rw [if_neg c3] at H
        have c3b0 : decide (x5_1 < (l0.length : Int)) = false := decide_eq_false c3
        clear c3
        obtain rfl := Option.some.inj H
        go_wp2
        go_ret
        exact ⟨by first | rfl | (simp; done) | (simp [*]; done), by repeat (first | exact Drawn0.refl _ | apply Drawn0.step)⟩

/-! ### laws_heldCards: function 18 -/
def laws_heldCards.f (k : Nat) (a0_0 : Int) (l0_1 : List (List Int)) (a1 : Int) : Option (Int) := (laws_heldIntSS.f k l0_1 a1).bind fun t127 => (if t127 < 0 then (some (-1)) else (some t127))
theorem laws_heldCards.mono : ∀ a0 a1 a2 k, LeO (laws_heldCards.f k a0 a1 a2) (laws_heldCards.f (k + 1) a0 a1 a2) := by
  intro a0 a1 a2 k
  unfold laws_heldCards.f
  repeat' first
      | (with_reducible exact laws_heldIntSS.mono _ _ _)
      | (with_reducible exact LeO.refl _)
      | (with_reducible exact LeO.none _)
      | (with_reducible refine LeO.ite ?_ ?_)
      | (with_reducible refine LeO.bind ?_ (fun _ => ?_))
      | exact laws_heldIntSS.mono _ _ _
      | exact LeO.none _
      | refine LeO.ite ?_ ?_
      | refine LeO.bind ?_ (fun _ => ?_)
set_option maxHeartbeats 8000000 in
set_option maxRecDepth 100000 in
theorem laws_heldCards.calls (k : Nat) (a0_0 : Int) (A0_1 : Option Addr) (c0_1 : Nat) (l0_1 : List (List Int)) (a1 : Int) (r : Int) (w : World) (hr0_1 : Kd.C (Kd.slice 3 (Kd.int .i64)) w A0_1 l0_1.length l0_1) (hc0_1 : l0_1.length ≤ c0_1) (h : laws_heldCards.f k a0_0 l0_1 a1 = some r) :
    Calls Try.prog 18 #[.agg #[.int .i64 a0_0, .slice A0_1 l0_1.length c0_1], .int .i64 a1] w fun e w' => e = .returned (.int .i64 r) ∧ Below w.heap.size w w' := by
  have hu27 := Try.underlying27
  have HR0_1 := Aside0.mk hr0_1
  have HC0_1 := Aside0.mk hc0_1
  clear hr0_1 hc0_1
  have HB := Aside0.mk (Below.refl w.heap.size w)
  have H : ((laws_heldIntSS.f k l0_1 a1).bind fun t127 => (if t127 < 0 then (some (-1)) else (some t127))) = some r := h
  clear h
  replace H := Option.bind_eq_some_iff.mp H
  obtain ⟨t127, A30, H⟩ := H
  replace H : (if t127 < 0 then (some (-1)) else (some t127)) = some r := H
  have A3 := Aside0.mk A30
  clear A30
  by_cases c4 : t127 < 0
  · rw [if_pos c4] at H
    have c4b0 : decide (t127 < 0) = true := decide_eq_true c4
    clear c4
    obtain rfl := Option.some.inj H
    go_enter Try.func18, Try.ntmps18
    go_wp2_with (first | ((with_reducible refine gate_dst (N := 2) rfl ?_); refine box_event ?hg (N := 2) ?hd (cs := #[.int .i64 a0_0, .slice A0_1 l0_1.length c0_1]) (t := 27) ?hr ?_; (case hd => rfl); (case hg => rfl); (case hr => first | (go_simp; done) | (go_simp; rfl)); intro gb126 hg w5 hbox hb; have n0_ := Aside0.mk (below_step (by repeat (first | (with_reducible first | exact HB.out | apply below_alloc | apply pw_below_drewN | apply below_drew1) | exact HB.out)) hb); have n1_ := Aside0.mk (hbox); have n2_ := Aside0.mk ((by rw [hg]; exact (below_size (by repeat (first | (with_reducible first | exact HB.out | apply below_alloc | apply pw_below_drewN | apply below_drew1) | exact HB.out))) : w.heap.size ≤ gb126)); have n3_ := Aside0.mk ((by rw [hg]; exact (below_size (by repeat (first | (with_reducible first | exact HB.out | apply below_alloc | apply pw_below_drewN | apply below_drew1) | exact HB.out))) : w.heap.size ≤ gb126)); clear HB; have HB := n0_; have BK126 := n1_; have GW126 := n2_; have GE126 := n3_; clear n0_ n1_ n2_ n3_; clear hb hbox hg; have hcz6_0 : w5.cell? ⟨gb126, 0, none⟩ = some (.int .i64 a0_0) := (blk_cell BK126.out 0).trans rfl; have hcz6_1 : w5.cell? ⟨gb126, 1, none⟩ = some (.slice A0_1 l0_1.length c0_1) := (blk_cell BK126.out 1).trans rfl; have hfz6_0 := blk_frozen BK126.out 0; have hfz6_1 := blk_frozen BK126.out 1) | ((with_reducible refine gate_callee (f := 44) rfl ?_); refine goesL_ (some 8) rfl rfl Try.func44 (by kernel_rfl) rfl #[.slice A0_1 l0_1.length c0_1, .int .i64 a1] rfl (by (try simp only [List.map_toArray, List.map_cons, List.map_nil]); first | done | rfl | (simp only [List.length_drop, List.length_take]; rfl)) ?_; (with_reducible refine (laws_heldIntSS.calls k _ _ l0_1 a1 t127 _ ?side1 ?side2 A3.out).mono ?_); (case side1 => repeat (first | exact (Kd.C_below HR0_1.out HB.out) | (with_reducible refine Kd.C_alloc ?_ _) | (with_reducible refine Kd.C_drewN ?_ _) | (with_reducible refine Kd.C_drew ?_))); (case side2 => exact HC0_1.out); rintro e w' ⟨rfl, ⟨nd, rfl⟩⟩; refine ⟨_, rfl, ?_⟩))
    go_ret
    exact ⟨by first | rfl | (simp [errW_none, errW_some] <;> rfl) | (simp [*, errW_none, errW_some] <;> rfl), by repeat (first | (with_reducible first | exact HB.out | apply below_alloc | apply pw_below_drewN | apply below_drew1 | refine below_set ?_ GE126.out) | exact HB.out)⟩
  · rw [if_neg c4] at H
    have c4b0 : decide (t127 < 0) = false := decide_eq_false c4
    clear c4
    obtain rfl := Option.some.inj H
    go_enter Try.func18, Try.ntmps18
    go_wp2_with (first | ((with_reducible refine gate_dst (N := 2) rfl ?_); refine box_event ?hg (N := 2) ?hd (cs := #[.int .i64 a0_0, .slice A0_1 l0_1.length c0_1]) (t := 27) ?hr ?_; (case hd => rfl); (case hg => rfl); (case hr => first | (go_simp; done) | (go_simp; rfl)); intro gb126 hg w7 hbox hb; have n0_ := Aside0.mk (below_step (by repeat (first | (with_reducible first | exact HB.out | apply below_alloc | apply pw_below_drewN | apply below_drew1) | exact HB.out)) hb); have n1_ := Aside0.mk (hbox); have n2_ := Aside0.mk ((by rw [hg]; exact (below_size (by repeat (first | (with_reducible first | exact HB.out | apply below_alloc | apply pw_below_drewN | apply below_drew1) | exact HB.out))) : w.heap.size ≤ gb126)); have n3_ := Aside0.mk ((by rw [hg]; exact (below_size (by repeat (first | (with_reducible first | exact HB.out | apply below_alloc | apply pw_below_drewN | apply below_drew1) | exact HB.out))) : w.heap.size ≤ gb126)); clear HB; have HB := n0_; have BK126 := n1_; have GW126 := n2_; have GE126 := n3_; clear n0_ n1_ n2_ n3_; clear hb hbox hg; have hcz8_0 : w7.cell? ⟨gb126, 0, none⟩ = some (.int .i64 a0_0) := (blk_cell BK126.out 0).trans rfl; have hcz8_1 : w7.cell? ⟨gb126, 1, none⟩ = some (.slice A0_1 l0_1.length c0_1) := (blk_cell BK126.out 1).trans rfl; have hfz8_0 := blk_frozen BK126.out 0; have hfz8_1 := blk_frozen BK126.out 1) | ((with_reducible refine gate_callee (f := 44) rfl ?_); refine goesL_ (some 8) rfl rfl Try.func44 (by kernel_rfl) rfl #[.slice A0_1 l0_1.length c0_1, .int .i64 a1] rfl (by (try simp only [List.map_toArray, List.map_cons, List.map_nil]); first | done | rfl | (simp only [List.length_drop, List.length_take]; rfl)) ?_; (with_reducible refine (laws_heldIntSS.calls k _ _ l0_1 a1 t127 _ ?side1 ?side2 A3.out).mono ?_); (case side1 => repeat (first | exact (Kd.C_below HR0_1.out HB.out) | (with_reducible refine Kd.C_alloc ?_ _) | (with_reducible refine Kd.C_drewN ?_ _) | (with_reducible refine Kd.C_drew ?_))); (case side2 => exact HC0_1.out); rintro e w' ⟨rfl, ⟨nd, rfl⟩⟩; refine ⟨_, rfl, ?_⟩))
    go_ret
    exact ⟨by first | rfl | (simp [errW_none, errW_some] <;> rfl) | (simp [*, errW_none, errW_some] <;> rfl), by repeat (first | (with_reducible first | exact HB.out | apply below_alloc | apply pw_below_drewN | apply below_drew1 | refine below_set ?_ GE126.out) | exact HB.out)⟩

/-! ### laws_FnExactBinaryCards: function 4 -/
set_option maxHeartbeats 8000000 in
set_option maxRecDepth 100000 in
theorem laws_markCards.marks (k : Nat) (P : Nat → Prop) (a0_0 : Int) (v : Value) (l0_1 : List (List Int)) (a1 r1 : Int) (r2 : List (List Int)) (w0 w : World) (hB : Below w0.heap.size w0 w) (ho : Kd.S (Kd.slice 3 (Kd.int .i64)) 46 w w0.heap.size P v l0_1) (h : laws_markIntSS.f k l0_1 a1 = some (r1, r2)) :
    Calls Try.prog 17 #[.agg #[.int .i64 a0_0, v], .int .i64 a1] w fun e w' => e = .returned (.int .i64 r1) ∧ r2.length = l0_1.length ∧ Kd.S (Kd.slice 3 (Kd.int .i64)) 46 w' w0.heap.size P v r2 ∧ Below w0.heap.size w0 w' ∧ Kept w w' P := by
  have hu27 := Try.underlying27
  obtain ⟨A, c, rfl⟩ := Kd.R_slice (Kd.S_R ho)
  have HS := Aside0.mk (Kd.S_alloc ho (.cells #[.int .i64 a0_0, .slice A l0_1.length c] 27))
  have HB1 := Aside0.mk (hB.alloc (o := .cells #[.int .i64 a0_0, .slice A l0_1.length c] 27) hB.size)
  have HK1 := Aside0.mk (Kept.of_below ((Below.refl w.heap.size w).alloc (Nat.le_refl _) (.cells #[.int .i64 a0_0, .slice A l0_1.length c] 27)) P)
  have H1 := Aside0.mk h
  clear h ho hB
  go_enter Try.func17, Try.ntmps17
  go_wp2_with (go_at_call 43; (with_reducible refine (laws_markIntSS.calls k P (.slice A l0_1.length c) l0_1 a1 r1 r2 w0 _ ?side1 ?side2 H1.out).mono ?_); (case side1 => exact HB1.out); (case side2 => exact HS.out); rintro e w5 ⟨rfl, hs5, hb5, hk5, hl5⟩; have n0_ := Aside0.mk hs5; have n1_ := Aside0.mk hb5; have n2_ := Aside0.mk (Kept.then_ HK1.out hk5 (fun k_ hk_ => .inl hk_)); have n3_ := Aside0.mk hl5; clear hs5 hb5 hk5 hl5 HS HB1 HK1)
  go_ret
  exact ⟨rfl, n3_.out, n0_.out, n1_.out, n2_.out⟩
/-- THE ONE PURE STATEMENT of laws_FnExactBinaryCards: yours. -/
def laws_FnExactBinaryCards.Pure : Prop := ∀ (a0 : Int), (Lit.int .i64 a0).wf = true → ∃ (k : Nat) (n : Int) (L : List (List Int)) (b : Bool) (m : Int) (L2 : List (List Int)), spec_BinaryCards.f k a0 = some (n, L, b) ∧ impl_BinaryCards.f k a0 = some (n, L, b) ∧ laws_eqCards.f k n L n L = some true ∧ laws_markIntSS.f k L 1 = some (m, L2) ∧ laws_heldCards.f k n L2 1 = some m ∧ 0 ≤ m
set_option maxHeartbeats 8000000 in
set_option maxRecDepth 100000 in
theorem laws_FnExactBinaryCards.walk (P : laws_FnExactBinaryCards.Pure) (a0 : Int) (w : World) (w0 : (Lit.int .i64 a0).wf = true) :
    Calls Try.prog 4 #[.int .i64 a0] w fun e w' => e = .returned (.bool true) ∧ Below w.heap.size w w' := by
  obtain ⟨k, n, L, b, m, L2, h1, h2, h3, h4, h5, h6⟩ := P a0 w0
  have hu27 := Try.underlying27
  have HSP := Aside0.mk (fun W => spec_BinaryCards.calls k a0 n L b W h1)
  have HIM := Aside0.mk (fun W => impl_BinaryCards.calls k a0 n L b W h2)
  have HEQ := Aside0.mk h3
  have HMK := Aside0.mk h4
  have HHD := Aside0.mk h5
  have hd_ : decide (m < 0) = false := decide_eq_false (by omega)
  have HB := Aside0.mk (Below.refl w.heap.size w)
  have T16a := trivial
  have T14a := trivial
  have T18a := trivial
  have T16b := trivial
  have T14b := trivial
  have T18b := trivial
  clear h1 h2 h3 h4 h5 h6 w0
  go_enter Try.func4, Try.ntmps4
  go_wp2_with (first | (go_at_call 15; refine (HSP.out _).mono ?_; rintro e_ w1 ⟨v1, rfl, ho, hb⟩; obtain ⟨A1, c1, rfl⟩ := Kd.S_slice ho; have n0_ := Aside0.mk (Kd.S_lower ho (below_size (by repeat (first | (with_reducible first | exact HB.out | apply below_alloc | apply pw_below_drewN | apply below_drew1) | exact HB.out)))); have n1_ := Aside0.mk (below_step (by repeat (first | (with_reducible first | exact HB.out | apply below_alloc | apply pw_below_drewN | apply below_drew1) | exact HB.out)) hb); clear HB ho hb HSP; have HS1 := n0_; have HB := n1_; clear n0_ n1_) | (go_at_call 16; clear T16a; refine (HIM.out _).mono ?_; rintro e_ w2 ⟨v2, rfl, ho, hb⟩; obtain ⟨A2, c2, rfl⟩ := Kd.S_slice ho; have n0_ := Aside0.mk (Kd.S_old (Kd.S_alloc HS1.out (.cells #[.int .i64 n, .slice A1 L.length c1] 27)) hb); have n1_ := Aside0.mk (below_step (below_alloc HB.out _) hb); have n2_ := Aside0.mk (ho); have n3_ := Aside0.mk (blk_below (blk_new w1 (.cells #[.int .i64 n, .slice A1 L.length c1] 27)) hb); have n4_ := Aside0.mk ((below_size (below_alloc HB.out (.cells #[.int .i64 n, .slice A1 L.length c1] 27)))); clear HS1 HB ho hb; have HS1 := n0_; have HB := n1_; have HS2 := n2_; have BK3 := n3_; have HN := n4_; clear n0_ n1_ n2_ n3_ n4_; generalize (w1.alloc (.cells #[.int .i64 n, .slice A1 L.length c1] 27)).heap.size = N at HS1 HS2 HN; generalize w1.heap.size = g3 at BK3 ⊢; have hz3_0 : (w2.alloc (.cells #[.int .i64 n, .slice A2 L.length c2] 27)).cell? ⟨g3, 0, none⟩ = some (.int .i64 n) := (blk_cell (blk_alloc BK3.out (.cells #[.int .i64 n, .slice A2 L.length c2] 27)) 0).trans rfl; have hz3_1 : (w2.alloc (.cells #[.int .i64 n, .slice A2 L.length c2] 27)).cell? ⟨g3, 1, none⟩ = some (.slice A1 L.length c1) := (blk_cell (blk_alloc BK3.out (.cells #[.int .i64 n, .slice A2 L.length c2] 27)) 1).trans rfl; have hz5_0 : (w2.alloc (.cells #[.int .i64 n, .slice A2 L.length c2] 27)).cell? ⟨w2.heap.size, 0, none⟩ = some (.int .i64 n) := (blk_cell (blk_new w2 (.cells #[.int .i64 n, .slice A2 L.length c2] 27)) 0).trans rfl; have hz5_1 : (w2.alloc (.cells #[.int .i64 n, .slice A2 L.length c2] 27)).cell? ⟨w2.heap.size, 1, none⟩ = some (.slice A2 L.length c2) := (blk_cell (blk_new w2 (.cells #[.int .i64 n, .slice A2 L.length c2] 27)) 1).trans rfl) | (go_at_call 14; clear T14a; refine (laws_eqCards.calls k n A2 c2 L n A1 c1 L true _ (Kd.S_reads' (Kd.S_alloc HS2.out (.cells #[.int .i64 n, .slice A2 L.length c2] 27))).2.2 (Kd.S_reads' HS2.out).2.1 (Kd.S_reads' (Kd.S_alloc HS1.out (.cells #[.int .i64 n, .slice A2 L.length c2] 27))).2.2 (Kd.S_reads' HS1.out).2.1 HEQ.out).mono ?_; rintro e_ w3 ⟨rfl, hb⟩; have n0_ := Aside0.mk (Kd.S_below (Kd.S_alloc HS1.out (.cells #[.int .i64 n, .slice A2 L.length c2] 27)) hb); have n1_ := Aside0.mk (Kd.S_below (Kd.S_alloc HS2.out (.cells #[.int .i64 n, .slice A2 L.length c2] 27)) hb); have n2_ := Aside0.mk (below_step (below_alloc HB.out _) hb); have n3_ := Aside0.mk (blk_below (blk_alloc BK3.out (.cells #[.int .i64 n, .slice A2 L.length c2] 27)) hb); have n4_ := Aside0.mk (blk_below (blk_new w2 (.cells #[.int .i64 n, .slice A2 L.length c2] 27)) hb); clear HS1 HS2 HB BK3 hb hz3_0 hz3_1 hz5_0 hz5_1; have HS1 := n0_; have HS2 := n1_; have HB := n2_; have BK3 := n3_; have BK5 := n4_; clear n0_ n1_ n2_ n3_ n4_; generalize w2.heap.size = g5 at BK5 ⊢; have hz5_0 : w3.cell? ⟨g5, 0, none⟩ = some (.int .i64 n) := (blk_cell (BK5.out) 0).trans rfl; have hz5_1 : w3.cell? ⟨g5, 1, none⟩ = some (.slice A2 L.length c2) := (blk_cell (BK5.out) 1).trans rfl) | (go_at_call 17; refine (laws_markCards.marks k _ n _ L 1 m L2 w w3 HB.out (Kd.S_lower (Kd.S_bound HS2.out) HN.out) HMK.out).mono ?_; rintro e_ w4 ⟨rfl, hl_, hs_, hb, hk_⟩; have n0_ := Aside0.mk (Kd.S_kept HS1.out hk_ (fun k_ h1_ h2_ => absurd h2_.2.1 (Nat.not_le.2 h1_.2))); have n1_ := Aside0.mk (Kd.S_mono hs_ (fun _ h_ => trivial)); have n2_ := Aside0.mk (hb); have n3_ := Aside0.mk (laws_markCards.box_keep BK3.out hk_ (by decide)); have n4_ := Aside0.mk (laws_markCards.box_keep BK5.out hk_ (by decide)); have n5_ := Aside0.mk (hl_); clear HS1 HS2 HB BK3 BK5 hb hk_ hs_ hl_ hz5_0 hz5_1; have HS1 := n0_; have HS2 := n1_; have HB := n2_; have BK3 := n3_; have BK5 := n4_; have HL2 := n5_; clear n0_ n1_ n2_ n3_ n4_ n5_; have hz5_0 : w4.cell? ⟨g5, 0, none⟩ = some (.int .i64 n) := (blk_cell (BK5.out) 0).trans rfl; have hz5_1 : w4.cell? ⟨g5, 1, none⟩ = some (.slice A2 L.length c2) := (blk_cell (BK5.out) 1).trans rfl) | (go_at_call 18; clear T18a; have hc_ := laws_heldCards.calls k n A2 c2 L2 1 m w4 (by have h_ := HS2.out; rw [← HL2.out] at h_; exact (Kd.S_reads' h_).2.2) (by have h_ := HS2.out; rw [← HL2.out] at h_; exact (Kd.S_reads' h_).2.1) HHD.out; rw [HL2.out] at hc_; refine hc_.mono ?_; clear hc_; rintro e_ w5 ⟨rfl, hb⟩; have n0_ := Aside0.mk (Kd.S_below HS1.out hb); have n1_ := Aside0.mk (Kd.S_below HS2.out hb); have n2_ := Aside0.mk (below_step HB.out hb); have n3_ := Aside0.mk (blk_below BK3.out hb); have n4_ := Aside0.mk (blk_below BK5.out hb); clear HS1 HS2 HB BK3 BK5 hb hz5_0 hz5_1; have HS1 := n0_; have HS2 := n1_; have HB := n2_; have BK3 := n3_; have BK5 := n4_; clear n0_ n1_ n2_ n3_ n4_) | (go_at_call 16; clear T16b; refine (HIM.out _).mono ?_; rintro e_ w6 ⟨v3, rfl, ho, hb⟩; obtain ⟨A3, c3, rfl⟩ := Kd.S_slice ho; have n0_ := Aside0.mk (Kd.S_below HS1.out hb); have n1_ := Aside0.mk (Kd.S_below HS2.out hb); have n2_ := Aside0.mk (below_step HB.out hb); have n3_ := Aside0.mk (ho); have n4_ := Aside0.mk (blk_below BK3.out hb); have n5_ := Aside0.mk (blk_below BK5.out hb); clear HS1 HS2 HB BK3 BK5 ho hb; have HS1 := n0_; have HS2 := n1_; have HB := n2_; have HS3 := n3_; have BK3 := n4_; have BK5 := n5_; clear n0_ n1_ n2_ n3_ n4_ n5_; have hz3_0 : (w6.alloc (.cells #[.int .i64 n, .slice A3 L.length c3] 27)).cell? ⟨g3, 0, none⟩ = some (.int .i64 n) := (blk_cell (blk_alloc BK3.out (.cells #[.int .i64 n, .slice A3 L.length c3] 27)) 0).trans rfl; have hz3_1 : (w6.alloc (.cells #[.int .i64 n, .slice A3 L.length c3] 27)).cell? ⟨g3, 1, none⟩ = some (.slice A1 L.length c1) := (blk_cell (blk_alloc BK3.out (.cells #[.int .i64 n, .slice A3 L.length c3] 27)) 1).trans rfl; have hz9_0 : (w6.alloc (.cells #[.int .i64 n, .slice A3 L.length c3] 27)).cell? ⟨w6.heap.size, 0, none⟩ = some (.int .i64 n) := (blk_cell (blk_new w6 (.cells #[.int .i64 n, .slice A3 L.length c3] 27)) 0).trans rfl; have hz9_1 : (w6.alloc (.cells #[.int .i64 n, .slice A3 L.length c3] 27)).cell? ⟨w6.heap.size, 1, none⟩ = some (.slice A3 L.length c3) := (blk_cell (blk_new w6 (.cells #[.int .i64 n, .slice A3 L.length c3] 27)) 1).trans rfl) | (go_at_call 14; clear T14b; refine (laws_eqCards.calls k n A3 c3 L n A1 c1 L true _ (Kd.S_reads' (Kd.S_alloc HS3.out (.cells #[.int .i64 n, .slice A3 L.length c3] 27))).2.2 (Kd.S_reads' HS3.out).2.1 (Kd.S_reads' (Kd.S_alloc HS1.out (.cells #[.int .i64 n, .slice A3 L.length c3] 27))).2.2 (Kd.S_reads' HS1.out).2.1 HEQ.out).mono ?_; rintro e_ w7 ⟨rfl, hb⟩; have n0_ := Aside0.mk (Kd.S_below (Kd.S_alloc HS1.out (.cells #[.int .i64 n, .slice A3 L.length c3] 27)) hb); have n1_ := Aside0.mk (Kd.S_below (Kd.S_alloc HS2.out (.cells #[.int .i64 n, .slice A3 L.length c3] 27)) hb); have n2_ := Aside0.mk (below_step (below_alloc HB.out _) hb); have n3_ := Aside0.mk (blk_below (blk_alloc BK3.out (.cells #[.int .i64 n, .slice A3 L.length c3] 27)) hb); have n4_ := Aside0.mk (blk_below (blk_alloc BK5.out (.cells #[.int .i64 n, .slice A3 L.length c3] 27)) hb); clear HS1 HS2 HS3 HB BK3 BK5 hb hz3_0 hz3_1 hz9_0 hz9_1; have HS1 := n0_; have HS2 := n1_; have HB := n2_; have BK3 := n3_; have BK5 := n4_; clear n0_ n1_ n2_ n3_ n4_; have hz5_0 : w7.cell? ⟨g5, 0, none⟩ = some (.int .i64 n) := (blk_cell (BK5.out) 0).trans rfl; have hz5_1 : w7.cell? ⟨g5, 1, none⟩ = some (.slice A2 L.length c2) := (blk_cell (BK5.out) 1).trans rfl) | (go_at_call 18; clear T18b; have hc_ := laws_heldCards.calls k n A2 c2 L2 1 m w7 (by have h_ := HS2.out; rw [← HL2.out] at h_; exact (Kd.S_reads' h_).2.2) (by have h_ := HS2.out; rw [← HL2.out] at h_; exact (Kd.S_reads' h_).2.1) HHD.out; rw [HL2.out] at hc_; refine hc_.mono ?_; clear hc_; rintro e_ w8 ⟨rfl, hb⟩; have n0_ := Aside0.mk (Kd.S_below HS1.out hb); have n1_ := Aside0.mk (Kd.S_below HS2.out hb); have n2_ := Aside0.mk (below_step HB.out hb); have n3_ := Aside0.mk (blk_below BK3.out hb); have n4_ := Aside0.mk (blk_below BK5.out hb); clear HS1 HS2 HB BK3 BK5 hb hz5_0 hz5_1; have HS1 := n0_; have HS2 := n1_; have HB := n2_; have BK3 := n3_; have BK5 := n4_; clear n0_ n1_ n2_ n3_ n4_))
  go_ret
  exact ⟨rfl, HB.out⟩

end Go.Proofs.Ytpekdmadmggbpaa.Bc
