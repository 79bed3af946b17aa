/- Functions of the program and of the reference as Lean functions, and the contracts of their calls: laid by a program of this repo (wip/gen.py), in part by hand. -/
import Derived.Test.YtlkgojgmgdeieaaGx0
import Derived.Test.YtlkgojgmgdeieaaGx16
import Derived.Test.YtlkgojgmgdeieaaGx23
namespace Go.Proofs.Ytlkgojgmgdeieaa.G
open Go.RowKit Go.Proofs.YtlkgojgmgdeieaaW.PrintWords Go.Proofs.YtlkgojgmgdeieaaW.PrintLast Go.Proofs.YtlkgojgmgdeieaaW.PrintMore
attribute [local go_sem] max2_int min2_int max_two min_two max_three min_three max_four min_four   -- for this text's walks alone
set_option linter.unusedVariables false
set_option linter.unusedSimpArgs false

-- NOT PRINTED: function 98 (slices_partitionOrdered_int)

-- NOT PRINTED: function 87 (slices_pdqsortOrdered_int)

-- NOT PRINTED: function 75 (slices_Sort_int_int)

/-! ### impl_AddMark: function 48 -/
theorem impl_AddMark.R_of {W : World} {base : Nat} {v : Value} {xs : List Int} (h : W.ownsRow base 3 1 v xs.length (xs.map (Value.int .i64))) : Kd.R (Kd.int .i64) 3 W base (fun _ => True) v xs := by
  refine ⟨fun _ _ => trivial, xs.map (Value.int .i64), h, (by show (xs.map (Value.int .i64)).length = xs.length * 1; simp), fun j p hj => ?_⟩
  obtain ⟨hl, rfl⟩ := List.getElem?_eq_some_iff.1 hj
  show ((xs.map (Value.int .i64)).drop (j * 1)).take 1 = [Value.int .i64 xs[j]]
  rw [Nat.mul_one, List.drop_eq_getElem_cons (by simpa using hl)]
  simp
/-- A row that is read and not empty: where it lies, and its cells. -/
theorem impl_AddMark.C_cells {w : World} {A0 : Option Addr} {l0 : List Int} (h : Kd.C (Kd.int .i64) w A0 l0.length l0) (hp : 0 < l0.length) :
    ∃ b off, A0 = some ⟨b, off, none⟩ ∧ b < w.heap.size ∧ ∀ j, j < l0.length → w.cell? ⟨b, off + j, none⟩ = some (.int .i64 (l0.getD j 0)) := by
  obtain ⟨ad, rfl, h0⟩ := Kd.at_int h 0 (by omega) (by omega)
  have hs : ad.spot = none := by
    cases hsp : ad.spot with
    | none => rfl
    | some x =>
      simp only [Int.toNat_zero, Addr.add, if_true, World.cell?] at h0
      split at h0
      · simp [hsp] at h0
      · cases h0
  have hlt := World.block_lt_of_cell? w _ h0
  rw [add_block] at hlt
  obtain ⟨b, off, sp⟩ := ad
  simp only at hs hlt
  subst hs
  refine ⟨b, off, rfl, hlt, fun j hj => ?_⟩
  obtain ⟨ad', e', hc⟩ := Kd.at_int h (j : Int) (by omega) (by omega)
  cases e'
  rw [Int.toNat_natCast] at hc
  have e : (⟨b, off, none⟩ : Addr).add j = ⟨b, off + j, none⟩ := by
    unfold Addr.add
    by_cases hj0 : j = 0
    · subst hj0; rfl
    · rw [if_neg hj0]
  rw [e] at hc
  exact hc
def impl_AddMark.f (k : Nat) (l0 : List Int) (a1 : Int) : Option (List Int × Bool) := (impl_isInner.f k l0 a1).bind fun t => if t = true then ((slices_Contains_int_int.f k l0 a1).bind fun u => if u = true then some ([], false) else (if 0 < l0.length ∧ l0.length ≤ 1000000 then some ((l0 ++ [a1]).mergeSort (fun x y => decide (x ≤ y)), true) else none)) else some ([], false)
theorem impl_AddMark.mono : ∀ a0 a1 k, LeO (impl_AddMark.f k a0 a1) (impl_AddMark.f (k + 1) a0 a1) := by
  intro l0 a1 k
  unfold impl_AddMark.f
  intro r h
  obtain ⟨t, h1, h2⟩ := Option.bind_eq_some_iff.mp h
  refine Option.bind_eq_some_iff.mpr ⟨t, impl_isInner.mono _ _ _ _ h1, ?_⟩
  by_cases ht : t = true
  · rw [if_pos ht] at h2 ⊢
    obtain ⟨u, h3, h4⟩ := Option.bind_eq_some_iff.mp h2
    exact Option.bind_eq_some_iff.mpr ⟨u, slices_Contains_int_int.mono _ _ _ _ h3, h4⟩
  · rw [if_neg ht] at h2 ⊢; exact h2
set_option maxRecDepth 100000 in
set_option maxHeartbeats 4000000 in
theorem impl_AddMark.calls (k : Nat) (A0 : Option Addr) (c0 : Nat) (l0 : List Int) (a1 : Int) (r1 : List Int) (r2 : Bool) (w : World) (hr0 : Kd.C (Kd.int .i64) w A0 l0.length l0) (hc0 : l0.length ≤ c0) (h : impl_AddMark.f k l0 a1 = some (r1, r2)) :
    Calls Try.prog 48 #[.slice A0 l0.length c0, .int .i64 a1] w fun e w' => ∃ v0_ : Value, e = .returned (.tuple #[v0_, .bool r2]) ∧ Kd.R (Kd.int .i64) 3 w' w.heap.size (fun _ => True) v0_ r1 ∧ Below w.heap.size w w' := by
  obtain ⟨t, ht, h2⟩ := Option.bind_eq_some_iff.mp h
  clear h
  have HR0 := Aside0.mk hr0
  have HC0 := Aside0.mk hc0
  have HT := Aside0.mk ht
  clear hr0 ht
  cases t with
  | false =>
    have h3 := Option.some.inj ((if_neg (by simp)).symm.trans h2)
    cases h3
    clear h2
    go_enter Try.func48, Try.ntmps48
    go_wp2_with (first | (go_at_call 63; refine (impl_isInner.calls k _ c0 l0 a1 false _ HR0.out HC0.out HT.out).mono ?_; rintro e w' ⟨rfl, ⟨nd, rfl⟩⟩))
    go_ret2
    exact ⟨_, rfl, Kd.R_nil _ _ _ _ _, pw_below_drewN (Below.refl _ _) _⟩
  | true =>
    rw [if_pos rfl] at h2
    obtain ⟨u, hu, h3⟩ := Option.bind_eq_some_iff.mp h2
    clear h2
    have HU := Aside0.mk hu
    clear hu
    cases u with
    | true =>
      have h4 := Option.some.inj ((if_pos rfl).symm.trans h3)
      cases h4
      clear h3
      go_enter Try.func48, Try.ntmps48
      go_wp2_with (first | (go_at_call 63; refine (impl_isInner.calls k _ c0 l0 a1 true _ HR0.out HC0.out HT.out).mono ?_; rintro e w' ⟨rfl, ⟨nd, rfl⟩⟩) | (go_at_call 73; refine (slices_Contains_int_int.calls k _ c0 l0 a1 true _ (Kd.C_drewN HR0.out _) HC0.out HU.out).mono ?_; rintro e w' ⟨rfl, ⟨nd2, rfl⟩⟩))
      go_ret2
      exact ⟨_, rfl, Kd.R_nil _ _ _ _ _, pw_below_drewN (Below.refl _ _) _⟩
    | false =>
      rw [if_neg (by simp)] at h3
      have hpl : 0 < l0.length ∧ l0.length ≤ 1000000 := by
        apply Classical.byContradiction; intro hn; rw [if_neg hn] at h3; cases h3
      rw [if_pos hpl] at h3
      obtain ⟨hr1, hr2⟩ := Prod.mk.inj (Option.some.inj h3)
      subst hr2
      have HRR := Aside0.mk hr1
      clear h3 hr1
      obtain ⟨hp, hl⟩ := hpl
      obtain ⟨b, off, rfl, _, hcell⟩ := impl_AddMark.C_cells HR0.out hp
      have HC := Aside0.mk hcell
      clear hcell
      have K1 : ∀ w1 : World, Below w.heap.size w w1 → Calls Try.prog 74 #[.slice (some ⟨b, off, none⟩) l0.length c0] w1 fun e w' => ∃ v, e = .returned v ∧ Aside0 (Kd.R (Kd.int .i64) 3 w' w.heap.size (fun _ => True) v l0) ∧ Aside0 (Below w.heap.size w w') := fun w1 hb => by
        refine (Try.slices_Clone_int b off l0.length c0 l0 w1 (Nat.le_refl _) (by omega) (fun j hj => (hb.cell (World.block_lt_of_cell? w _ (HC.out j hj))).trans (HC.out j hj))).mono ?_
        rintro e w' ⟨v', rfl, hown, hne, hbel⟩
        rw [List.take_length] at hown
        exact ⟨v', rfl, ⟨Kd.R_lower (impl_AddMark.R_of hown) hb.size⟩, ⟨below_step hb hbel⟩⟩
      have HK1 := Aside0.mk K1
      clear K1
      have K2 : ∀ (g cap : Nat) (w1 : World), Aside0 (Kd.R (Kd.int .i64) 3 w1 w.heap.size (fun _ => True) (.slice (some ⟨g, 0, none⟩) (l0.length + 1) cap) (l0 ++ [a1]) ∧ Below w.heap.size w w1) →
          Calls Try.prog 75 #[.slice (some ⟨g, 0, none⟩) (l0.length + 1) cap] w1 fun e w' => e = .returned (.tuple #[]) ∧ Aside0 (Kd.R (Kd.int .i64) 3 w' w.heap.size (fun _ => True) (.slice (some ⟨g, 0, none⟩) (l0.length + 1) cap) r1 ∧ Below w.heap.size w w') := by
        rintro g cap w1 ⟨hR, hb⟩
        have hlen : (l0 ++ [a1]).length = l0.length + 1 := by simp
        obtain ⟨inner, ho⟩ := Kd.R_own hR
        rcases ho.2 with ⟨e0, _⟩ | ⟨g', cap', cur, e0, hb', hg, hn, hm, hs, _⟩
        · cases e0
        · injection e0 with e1 _ e3
          injection e1 with e1
          injection e1 with e1
          subst e1; subst e3
          have hH : Go.Sort.Holds (Value.int .i64) w1 g 0 (l0 ++ [a1]).toArray := by
            intro j hj
            have hj' : j < (l0 ++ [a1]).length := by simpa using hj
            refine ⟨?_, by simp [World.frozen?, hg]⟩
            have hC := (Kd.R_reads' hR).2.2
            obtain ⟨ad', ea, hc⟩ := Kd.at_int hC (j : Int) (by omega) (by omega)
            cases ea
            have e : (⟨g, 0, none⟩ : Addr).add j = ⟨g, 0 + j, none⟩ := by
              unfold Addr.add
              by_cases hj0 : j = 0
              · subst hj0; rfl
              · rw [if_neg hj0]
            rw [Int.toNat_natCast, e] at hc
            rw [hc]
            simp [rd, hj', getElem!_pos]
          have hgl : g < w1.heap.size := (Array.getElem?_eq_some_iff.1 hg).1
          have := Try.slices_Sort_int g 0 cap (l0 ++ [a1]) w1 hH hgl (by omega)
          rw [hlen] at this
          refine this.mono ?_
          rintro e w' ⟨rfl, q, os, rfl⟩
          refine ⟨rfl, ⟨?_, hb.grown (grownBy_sortedI _) (by have := hb.size; omega) (fun k hk => by cases hk; exact hb')⟩⟩
          rw [HRR.out]
          have hl2 : r1.length = (l0 ++ [a1]).length := by rw [← HRR.out]; simp
          have hs2 := ownsRow_sortedI (n := q) (os := os) (ss := l0 ++ [a1]) (ts := r1) hl2 hb' hg (by omega) hm hs
          rw [← hl2] at hs2
          have := impl_AddMark.R_of hs2
          rw [hl2, hlen] at this
          exact this
      have HK2 := Aside0.mk K2
      clear K2
      go_enter Try.func48, Try.ntmps48
      go_wp2_with (first | (go_at_call 63; refine (impl_isInner.calls k _ c0 l0 a1 true _ HR0.out HC0.out HT.out).mono ?_; rintro e w' ⟨rfl, ⟨nd, rfl⟩⟩) | (go_at_call 73; refine (slices_Contains_int_int.calls k _ c0 l0 a1 false _ (Kd.C_drewN HR0.out _) HC0.out HU.out).mono ?_; rintro e w' ⟨rfl, ⟨nd2, rfl⟩⟩) | (go_at_call 74; refine (HK1.out _ (pw_below_drewN (Below.refl _ _) _)).mono ?_; rintro e w2 ⟨v, rfl, HO, HB⟩) | ((with_reducible refine gate_builtin (b := .append) (xs := #[.tmp 17, .tmp 19]) rfl ?_); at_builtin; refine Kd.R_append (Kd.int .i64) (w0 := w) w.heap.size rfl (.tmp 17) (.tmp 19) 22 3 (.int .i64 0) 8 rfl Try.underlying22 info3 rfl (by decide) (by omega) v l0 a1 [.int .i64 a1] (fun _ => True) (fun _ => False) rfl rfl ?aP (fun _ hk => hk.elim) ?aF ?aO ?aB ?aS ?aL ?_; (case aP => exact rfl); (case aB => exact HB.out); (case aF => exact (fun k hk => trivial)); (case aO => exact HO.out); (case aS => exact (below_size HB.out)); (case aL => omega); intro v1 w3 ho hb hg hat; obtain ⟨g, cap, rfl, _, _, _⟩ := Kd.R_form ho (by simp); rw [show (l0 ++ [a1]).length = l0.length + 1 by simp] at ho; have K3 := HK2.out g cap w3 ⟨ho, hb⟩; clear ho hb hg hat HO HB) | (go_at_call 75; refine K3.mono ?_; rintro e w4 ⟨rfl, HQ⟩; clear K3))
      go_ret2
      exact ⟨_, rfl, HQ.out.1, HQ.out.2⟩

end Go.Proofs.Ytlkgojgmgdeieaa.G
