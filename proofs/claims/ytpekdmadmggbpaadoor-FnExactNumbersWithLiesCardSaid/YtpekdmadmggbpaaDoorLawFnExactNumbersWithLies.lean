/- The row of the law: the program's NumbersWithLies returns what the reference's returns, for all arguments; no further condition. -/
import Derived.Test.YtpekdmadmggbpaaDoorRows
import Derived.Test.YtpekdmadmggbpaaDoorTie
import Derived.Test.YtpekdmadmggbpaaDoorCards
import Derived.LaidMore
import Derived.Lay
import Derived.SevenTiedAt
import Derived.Stop.Joined
import Derived.Test.YtpekdmadmggbpaaDoorNlx11
import Derived.Test.YtpekdmadmggbpaaDoorPureFnExactNumbersWithLies
import Derived.WalkKit
import Derived.ProofKit
import Derived.OpenShut
import Derived.ShutString
import Derived.ChangeOld
import Derived.Below
import Derived.SizedLaws
import Derived.Deep.Matrix
import Derived.Test.YtpekdmadmggbpaaDoorWSized
namespace Go.Proofs.YtpekdmadmggbpaaDoor.fnExactNumbersWithLies
open Go.ChangeShapes Go.WideShapes Go.ChangeAt Go.RowKit
open Go.ChangeMaps (open_string shut_string)
set_option linter.unusedVariables false
theorem own : ownKnob Tryd.prog.godebug = none := by kernel_rfl
theorem laidOut : laidOutB Tryd.prog = true := by kernel_rfl
open Go.Proofs.YtpekdmadmggbpaaDoorW.PrintWords in
/-- A struct of a number and of rows, as it comes in. -/
theorem open_cards {H : Type} {enc : TypeId × Value → H} {W : World} {base : Nat} {v0 : Value} {d0 : DataW H} {p0 : List MemPlace} (hval : Value.okWide Tryd.prog W .any base 24 v0)
    (h0 : DataW.Trod enc Tryd.prog W 0 (fun _ => true) true 24 v0 d0 p0) :
    ∃ (num : Int) (A : Option Addr) (cap : Nat) (l : List (List Int)), v0 = .agg #[.int .i64 num, .slice A l.length cap] ∧ (Lit.int .i64 num).wf = true ∧ l.length ≤ cap ∧ l.length ≤ maxLen ∧
      (∀ x ∈ l, x.length ≤ maxLen ∧ ∀ y ∈ x, (Lit.int .i64 y).wf = true) ∧ Kd.C (Kd.slice 3 (Kd.int .i64)) W A l.length l := by
  obtain ⟨cs, rfl, hsz⟩ := okWide_struct Tryd.underlying24 hval
  obtain ⟨fuel, hf⟩ := h0
  obtain ⟨y0, y1, n, hx, hlen, hy0, hy1⟩ := trod_struct2 Tryd.underlying24 hf
  have c27 : Tryd.prog.cellsOf 24 = 2 := by kernel_rfl
  have c3 : Tryd.prog.cellsOf 3 = 1 := by kernel_rfl
  have c22 : Tryd.prog.cellsOf 22 = 1 := by kernel_rfl
  rw [c27] at hsz
  obtain ⟨cl⟩ := cs
  match cl, hsz with
  | [x0, x1], _ =>
    rw [c3] at hy0
    rw [c22] at hy1
    have hy0' : DataW.trod enc Tryd.prog W 0 (fun _ => true) true n 3 [x0] = some y0 := hy0
    have hy1' : DataW.trod enc Tryd.prog W 0 (fun _ => true) true n 22 [x1] = some y1 := hy1
    obtain ⟨num, e1, _, wf⟩ := DataW.trod_int Tryd.underlying3 hy0'
    obtain rfl : x0 = .int .i64 num := by simpa using e1
    rcases Go.Deep.open_int_rows Tryd.underlying22 Tryd.underlying37 Tryd.underlying3 (by kernel_rfl) (by kernel_rfl) hy1' with ⟨hcs, _⟩ | ⟨a, len, cap, A, L, C, Z, hcs, _, hl, hm, _, hrows⟩
    · obtain rfl : x1 = .slice none 0 0 := by simpa using hcs
      exact ⟨num, none, 0, [], rfl, wf, Nat.le_refl _, Nat.zero_le _, fun x hx => by simp at hx, rfl, by simp, fun h => absurd h (by simp)⟩
    · obtain rfl : x1 = .slice (some a) len cap := by simpa using hcs
      have hll : ((List.range len).map fun r => (Z r).take (L r)).length = len := by simp
      have hrl : ∀ r, r < len → ((Z r).take (L r)).length = L r := fun r hr => by
        obtain ⟨_, h2, _, h4, _⟩ := hrows r (by omega)
        rw [List.length_take]; omega
      refine ⟨num, some a, cap, (List.range len).map fun r => (Z r).take (L r), by rw [hll], wf, by rw [hll]; exact hl, by rw [hll]; omega, fun x hx => ?_, by rw [hll], by rw [hll]; unfold maxLen at hm; omega, fun _ => ⟨a, rfl, fun j p hj => ?_⟩⟩
      · obtain ⟨r, hr, rfl⟩ := List.mem_map.1 hx
        have hr' := List.mem_range.1 hr
        obtain ⟨_, h2, h3, h4, h5, _⟩ := hrows r (by omega)
        exact ⟨by rw [hrl r hr']; omega, fun y hy => h5 y (List.mem_of_mem_take hy)⟩
      · obtain ⟨hj1, hj2⟩ := List.getElem?_eq_some_iff.1 hj
        rw [hll] at hj1
        have hp : p = (Z j).take (L j) := by rw [← hj2]; simp
        obtain ⟨h1, h2, h3, h4, h5, h6, h7⟩ := hrows j (by omega)
        have hpl : p.length = L j := by rw [hp]; exact hrl j hj1
        refine ⟨[.slice (A j) p.length (C j)], rfl, ⟨A j, C j, rfl, by omega, ?_⟩, fun i u hu => ?_⟩
        · refine Kd.C_of_reads (d := (0 : Int)) (h1 := fun _ => rfl) ⟨rfl, by unfold maxLen at h3; omega, fun hn => ?_⟩
          cases ha : A j with
          | none => have := h6 ha; omega
          | some a' =>
            refine ⟨a', rfl, fun i hi => ?_⟩
            rw [(h7 a' ha).2 i (by omega), hp]
            simp only [List.getD]
            rw [List.getElem?_take_of_lt (by omega)]
        · cases i with
          | zero =>
            simp only [List.getElem?_cons_zero, Option.some.injEq] at hu
            subst hu
            show W.cell? (a.add (j * 1 + 0)) = some (.slice (A j) p.length (C j))
            rw [Nat.mul_one, Nat.add_zero, h1, hpl]
          | succ i => simp at hu

set_option maxRecDepth 100000 in
theorem lifted (os : Os) (started : os.Started) (H : Type) (enc : TypeId × Value → H) :
    ReturnsInHanded {} Tryd.checked os 6 .any (fun w args => (Rows.fnExactNumbersWithLiesSpec.pre enc Tryd.prog Tryd.f6 Rows.fnExactNumbersWithLiesRow.domain false w args ∧ laidMetH Tryd.prog Rows.fnExactNumbersWithLiesRow.laid w) ∧ sizedMet enc Tryd.prog Tryd.f6 (OpenSpec.ofChange Rows.fnExactNumbersWithLiesSpec) false w args) (Rows.fnExactNumbersWithLiesSpec.post enc Tryd.prog Tryd.f6 false true false false) := by
  refine returnsInHanded_of_change_and (C := Tryd.checked) (X := fun w _ => laidMetH Tryd.prog Rows.fnExactNumbersWithLiesRow.laid w) (fun _ _ _ hh h => h.of_heap hh) own started (by kernel_rfl) Tryd.func6
    (ChangeSpec.witness_shaped (enc := enc) (C := Tryd.checked) (os := os) (X := fun w _ => laidMetH Tryd.prog Rows.fnExactNumbersWithLiesRow.laid w) false (World.laidAll Tryd.prog os Rows.fnExactNumbersWithLiesRow.laid) #[.agg #[.int .i64 0, .slice none 0 0], .string ByteArray.empty, .int .i64 0] 8 (World.laidAll_os _ _ _)
      (World.shaped_of_ZipB (by kernel_rfl) (by kernel_rfl)) (by kernel_rfl) (by kernel_rfl) (by kernel_rfl)
      (by rw [MakeChecks.laidMetH_plain _ _ _ (by kernel_rfl)]; exact laidMet_laidAll _ (by kernel_rfl) (by kernel_rfl))) ?_
  intro W base args ds gs before hval0 hW hcnd hsz0 hL_ _
  clear hL_
  have hsz : (DataW.weightsEach Tryd.prog (Tryd.f6.params.toList ++ Rows.fnExactNumbersWithLiesSpec.plain.varTypes Tryd.prog) (ds ++ gs)).all (· ≤ reachBytes) = true := hsz0
  have hval : ∀ (j : Nat) t v, Tryd.f6.params[j]? = some t → args[j]? = some v → Value.okWide Tryd.prog W .any base t v := hval0
  have hW' := hW
  obtain ⟨p, q, hA0, hV, rfl, hfz, hnd⟩ := hW
  have hA : DataW.TrodAll enc Tryd.prog W 0 (fun _ => true) true Tryd.f6.params.toList args.toList ds p := hA0
  rw [Tryd.params6] at hA hval hsz
  obtain ⟨v0, vs0, d0, ds0, p0, q0, hargs, rfl, rfl, h0, r0⟩ := trodAll_cons hA
  obtain ⟨v1, vs1, d1, ds1, p1, q1, rfl, rfl, rfl, h1, r1⟩ := trodAll_cons r0
  obtain ⟨v2, vs2, d2, ds2, p2, q2, rfl, rfl, rfl, h2, r2⟩ := trodAll_cons r1
  obtain ⟨rfl, rfl, rfl⟩ := trodAll_nil r2
  obtain rfl : args = #[v0, v1, v2] := by cases args; simp_all
  obtain ⟨rfl, rfl⟩ := trodVars_none hV
  have k0 := h0
  have lt0 : ∀ x ∈ p0, x.block < W.heap.size := by obtain ⟨m, hm⟩ := k0; exact DataW.trod_lt m _ _ _ hm
  obtain ⟨num, A0, cap0, rows0, rfl, wn, hcap, hmax, hin, hC⟩ := open_cards (hval 0 24 v0 rfl rfl) h0
  obtain ⟨a1, rfl, rfl, rfl, y1⟩ := open_string Tryd.underlying9 (hval 1 9 v1 rfl rfl) h1
  have w1 : a1.size ≤ 140737488351232 := by
    have z := sized_string hsz (j := 1) (t := 9) rfl rfl
    rw [Array.length_toList] at z
    exact z
  obtain ⟨a2, rfl, rfl, rfl, w2⟩ := open_int Tryd.underlying3 (hval 2 3 v2 rfl rfl) h2
  clear hA0 hval0 hsz0 hsz
  obtain ⟨k, hk⟩ := Pure.FnExactNumbersWithLies num rows0 a1 a2 wn hmax hin w1 w2
  refine (Nl.laws_FnExactNumbersWithLies.calls k num A0 cap0 rows0 a1 a2 true W hC hcap hk).mono fun e W' ⟨he, bel⟩ => ?_
  subst he
  exact ⟨_, rfl, _, _, _, [], _, [], hW', trodAll_mk1 (shut_bool Tryd.underlying4 _), (trodAll_cons_mk (Below.trod laidOut (by kernel_rfl) (of_decide_eq_true (by kernel_rfl)) k0 bel lt0) (trodAll_cons_mk (shut_string Tryd.underlying9 y1) (trodAll_cons_mk (shut_int Tryd.underlying3 w2) trodAll_mk0))), rfl, bel.frame _, fun h => by cases h⟩
theorem over : Rows.fnExactNumbersWithLiesRow.holds Tryd.pinned (OpenSpec.ofChange Rows.fnExactNumbersWithLiesSpec) :=
  OpenClaim.holds_of_wide 6 Tryd.f6 rfl rfl rfl rfl rfl rfl rfl ⟨rfl, rfl, rfl, rfl, rfl⟩ rfl rfl rfl rfl rfl (by kernel_rfl) Tryd.func6 (by kernel_rfl)
    (of_decide_eq_true (by kernel_rfl)) (by unfold Func.isWrapper; first | (rw [if_pos (by decide +kernel)]; kernel_rfl) | (rw [if_neg (by decide +kernel)]; exact ⟨rfl, rfl⟩))
    (fun os started H enc _ => lifted os started H enc)
theorem card : Rows.FnExactNumbersWithLiesCardSaid :=
  Claim7.holds_tied_plain_at .later [] [.data, .pinned] true (true, "31bf2ef774c69bb0ad54ba83f9bf25e4cfc936cbdcebfb8a6e135813ca9c6389") false over (fun _ h => by cases h) (by kernel_rfl) (fun _ h => by cases h) fnExactNumbersWithLies_row_tie rfl ⟨rfl, rfl⟩ (by kernel_rfl) rfl
    (fun f fn hf hfn => by
      obtain rfl : f = 6 := Option.some.inj ((show Tryd.prog.funcNamed "loop.example/g01305/laws.FnExactNumbersWithLies" = some 6 by kernel_rfl).symm.trans hf) |>.symm
      obtain rfl : fn = Tryd.f6 := (Option.some.inj (Tryd.func6.symm.trans hfn)).symm
      exact ⟨by kernel_rfl, fun j t ht => by
        rw [Tryd.params6] at ht
        have hm : t ∈ [24, 9, 3] := by simpa using Array.mem_of_getElem? ht
        have hall : ([24, 9, 3].all fun u => !Tryd.prog.wantsStandIn u) = true := by kernel_rfl
        exact (show Tryd.prog.wantsStandIn t = false by simpa using List.all_eq_true.1 hall t hm)⟩)
    (by kernel_rfl)
#print axioms card
end Go.Proofs.YtpekdmadmggbpaaDoor.fnExactNumbersWithLies
namespace Go.Proofs.YtpekdmadmggbpaaDoor
/-- The tied card, under a short name, for the claim. -/
theorem fnExactNumbersWithLies_holds : Rows.FnExactNumbersWithLiesCardSaid := fnExactNumbersWithLies.card
end Go.Proofs.YtpekdmadmggbpaaDoor
