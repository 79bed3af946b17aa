/- Functions of the program and of the reference as Lean functions, and the contracts of their calls: laid by a program of this repo (wip/gen.py), in part by hand. -/
import Derived.Test.YtobcoaafbekhaaaGx0
import Derived.Test.YtobcoaafbekhaaaGx18
import Derived.Test.YtobcoaafbekhaaaGx19
namespace Go.Proofs.Ytobcoaafbekhaaa.G
open Go.RowKit Go.Proofs.YtobcoaafbekhaaaW.PrintWords Go.Proofs.YtobcoaafbekhaaaW.PrintLast Go.Proofs.YtobcoaafbekhaaaW.PrintMore
attribute [local go_sem] max2_int min2_int max_two min_two max_three min_three max_four min_four   -- for this text's walks alone
set_option linter.unusedVariables false
set_option linter.unusedSimpArgs false

/-! ### laws_FnExactFewestCardsFor: function 13 -/
def laws_FnExactFewestCardsFor.f (k : Nat) (a0 : Int) : Option (Bool) := (spec_FewestCardsFor.f k a0).bind fun bt477 => ((impl_FewestCardsFor.f k a0).bind fun bt479 => (if bt479.1 = bt477.1 then (if (bt479.2 != bt477.2) = true then (some false) else (some true)) else (some false)))
theorem laws_FnExactFewestCardsFor.mono : ∀ a0 k, LeO (laws_FnExactFewestCardsFor.f k a0) (laws_FnExactFewestCardsFor.f (k + 1) a0) := by
  intro a0 k
  unfold laws_FnExactFewestCardsFor.f
  repeat' first
      | (with_reducible exact impl_FewestCardsFor.mono _ _)
      | (with_reducible exact spec_FewestCardsFor.mono _ _)
      | (with_reducible exact LeO.refl _)
      | (with_reducible exact LeO.none _)
      | (with_reducible refine LeO.ite ?_ ?_)
      | (with_reducible refine LeO.bind ?_ (fun _ => ?_))
      | exact impl_FewestCardsFor.mono _ _
      | exact spec_FewestCardsFor.mono _ _
      | exact LeO.none _
      | refine LeO.ite ?_ ?_
      | refine LeO.bind ?_ (fun _ => ?_)
set_option maxHeartbeats 8000000 in
set_option maxRecDepth 100000 in
theorem laws_FnExactFewestCardsFor.calls (k : Nat) (a0 : Int) (r : Bool) (w : World) (h : laws_FnExactFewestCardsFor.f k a0 = some r) :
    Calls Try.prog 13 #[.int .i64 a0] w fun e w' => e = .returned (.bool r) ∧ Drawn0 w w' := by
  have H : ((spec_FewestCardsFor.f k a0).bind fun bt477 => ((impl_FewestCardsFor.f k a0).bind fun bt479 => (if bt479.1 = bt477.1 then (if (bt479.2 != bt477.2) = true then (some false) else (some true)) else (some false)))) = some r := h
  clear h
  replace H := Option.bind_eq_some_iff.mp H
  obtain ⟨⟨t477, t478⟩, A20, H⟩ := H
  replace H : ((impl_FewestCardsFor.f k a0).bind fun bt479 => (if bt479.1 = t477 then (if (bt479.2 != t478) = true then (some false) else (some true)) else (some false))) = some r := H
  have A2 := Aside0.mk A20
  clear A20
  replace H := Option.bind_eq_some_iff.mp H
  obtain ⟨⟨t479, t480⟩, A30, H⟩ := H
  replace H : (if t479 = t477 then (if (t480 != t478) = true then (some false) else (some true)) else (some false)) = some r := H
  have A3 := Aside0.mk A30
  clear A30
  by_cases c4 : t479 = t477
  · rw [if_pos c4] at H
    have c4b0 : (t479 == t477) = true := beq_iff_eq.mpr c4
    have c4b1 : (t479 != t477) = false := bne_eq_false_iff_eq.mpr c4
    clear c4
    by_cases c5 : (t480 != t478) = true
    · rw [if_pos c5] at H
      have c5b0 : (t480 != t478) = true := c5
      (try (have c5b1 : decide (t480 = t478) = false := by simpa using c5))
      (try (have c5b2 : (t480 == t478) = false := by simpa using c5))
      (try (have c5b3 : ¬ (t480 = t478) := by simpa using c5))
      clear c5
      obtain rfl := Option.some.inj H
      go_enter Try.func13, Try.ntmps13
      go_wp2_with (first | ((with_reducible refine gate_callee (f := 38) rfl ?_); refine goesL_ (some 9) rfl rfl Try.func38 (by kernel_rfl) rfl #[.int .i64 a0] rfl (by (try simp only [List.map_toArray, List.map_cons, List.map_nil]); first | done | rfl | (simp only [List.length_drop, List.length_take]; rfl)) ?_; (with_reducible refine (spec_FewestCardsFor.calls k a0 t477 t478 _ A2.out).mono ?_); rintro e w' ⟨rfl, ⟨nd, rfl⟩⟩; refine ⟨_, rfl, ?_⟩) | ((with_reducible refine gate_callee (f := 39) rfl ?_); refine goesL_ (some 14) rfl rfl Try.func39 (by kernel_rfl) rfl #[.int .i64 a0] rfl (by (try simp only [List.map_toArray, List.map_cons, List.map_nil]); first | done | rfl | (simp only [List.length_drop, List.length_take]; rfl)) ?_; (with_reducible refine (impl_FewestCardsFor.calls k a0 t479 t480 _ A3.out).mono ?_); rintro e w' ⟨rfl, ⟨nd, rfl⟩⟩; refine ⟨_, rfl, ?_⟩))
      go_ret
      exact ⟨by first | rfl | (simp; done) | (simp [*]; done), by repeat (first | exact Drawn0.refl _ | apply Drawn0.step)⟩
    · rw [if_neg c5] at H
      have c5b0 : (t480 != t478) = false := by simpa using c5
      (try (have c5b1 : decide (t480 = t478) = true := by simpa using c5))
      (try (have c5b2 : (t480 == t478) = true := by simpa using c5))
      clear c5
      obtain rfl := Option.some.inj H
      go_enter Try.func13, Try.ntmps13
      go_wp2_with (first | ((with_reducible refine gate_callee (f := 38) rfl ?_); refine goesL_ (some 9) rfl rfl Try.func38 (by kernel_rfl) rfl #[.int .i64 a0] rfl (by (try simp only [List.map_toArray, List.map_cons, List.map_nil]); first | done | rfl | (simp only [List.length_drop, List.length_take]; rfl)) ?_; (with_reducible refine (spec_FewestCardsFor.calls k a0 t477 t478 _ A2.out).mono ?_); rintro e w' ⟨rfl, ⟨nd, rfl⟩⟩; refine ⟨_, rfl, ?_⟩) | ((with_reducible refine gate_callee (f := 39) rfl ?_); refine goesL_ (some 14) rfl rfl Try.func39 (by kernel_rfl) rfl #[.int .i64 a0] rfl (by (try simp only [List.map_toArray, List.map_cons, List.map_nil]); first | done | rfl | (simp only [List.length_drop, List.length_take]; rfl)) ?_; (with_reducible refine (impl_FewestCardsFor.calls k a0 t479 t480 _ A3.out).mono ?_); rintro e w' ⟨rfl, ⟨nd, rfl⟩⟩; refine ⟨_, rfl, ?_⟩))
      go_ret
      exact ⟨by first | rfl | (simp; done) | (simp [*]; done), by repeat (first | exact Drawn0.refl _ | apply Drawn0.step)⟩
  · rw [if_neg c4] at H
    have c4b0 : (t479 == t477) = false := beq_eq_false_iff_ne.mpr c4
    have c4b1 : (t479 != t477) = true := bne_iff_ne.mpr c4
    obtain rfl := Option.some.inj H
    go_enter Try.func13, Try.ntmps13
    go_wp2_with (first | ((with_reducible refine gate_callee (f := 38) rfl ?_); refine goesL_ (some 9) rfl rfl Try.func38 (by kernel_rfl) rfl #[.int .i64 a0] rfl (by (try simp only [List.map_toArray, List.map_cons, List.map_nil]); first | done | rfl | (simp only [List.length_drop, List.length_take]; rfl)) ?_; (with_reducible refine (spec_FewestCardsFor.calls k a0 t477 t478 _ A2.out).mono ?_); rintro e w' ⟨rfl, ⟨nd, rfl⟩⟩; refine ⟨_, rfl, ?_⟩) | ((with_reducible refine gate_callee (f := 39) rfl ?_); refine goesL_ (some 14) rfl rfl Try.func39 (by kernel_rfl) rfl #[.int .i64 a0] rfl (by (try simp only [List.map_toArray, List.map_cons, List.map_nil]); first | done | rfl | (simp only [List.length_drop, List.length_take]; rfl)) ?_; (with_reducible refine (impl_FewestCardsFor.calls k a0 t479 t480 _ A3.out).mono ?_); rintro e w' ⟨rfl, ⟨nd, rfl⟩⟩; refine ⟨_, rfl, ?_⟩))
    go_ret
    exact ⟨by first | rfl | (simp; done) | (simp [*]; done), by repeat (first | exact Drawn0.refl _ | apply Drawn0.step)⟩

/-- THE ONE PURE STATEMENT of laws_FnExactFewestCardsFor: yours. -/
def laws_FnExactFewestCardsFor.Pure : Prop := ∀ (a0 : Int), (Lit.int .i64 a0).wf = true → ∃ k, laws_FnExactFewestCardsFor.f k a0 = some true
theorem laws_FnExactFewestCardsFor.walk (P : laws_FnExactFewestCardsFor.Pure) (a0 : Int) (w : World) (w0 : (Lit.int .i64 a0).wf = true) :
    Calls Try.prog 13 #[.int .i64 a0] w fun e w' => e = .returned (.bool true) ∧ Below w.heap.size w w' := by
  obtain ⟨k, h⟩ := P a0 w0
  refine (laws_FnExactFewestCardsFor.calls k a0 true w h).mono ?_
  rintro e w' ⟨rfl, hd⟩
  exact ⟨rfl, hd.below⟩

end Go.Proofs.Ytobcoaafbekhaaa.G
