/- The row of the law: the program's TellsAll returns what the reference's returns, for all arguments; no further condition. -/
import Derived.Test.YtpekdmadmggbpaaRows
import Derived.Test.YtpekdmadmggbpaaTex8
import Derived.Test.YtpekdmadmggbpaaPureFnExactTellsAll
import Derived.WalkKit
import Derived.ProofKit
import Derived.OpenShut
import Derived.ShutString
import Derived.ChangeOld
import Derived.Below
import Derived.SizedLaws
import Derived.Deep.Matrix
import Derived.Test.YtpekdmadmggbpaaWSized
namespace Go.Proofs.Ytpekdmadmggbpaa.fnExactTellsAll
open Go.ChangeShapes Go.WideShapes Go.ChangeAt Go.RowKit
open Go.ChangeMaps (open_string shut_string)
set_option linter.unusedVariables false
theorem own : ownKnob Try.prog.godebug = none := by kernel_rfl
theorem laidOut : laidOutB Try.prog = true := by kernel_rfl
open Go.Proofs.YtpekdmadmggbpaaW.PrintWords in
/-- A struct of a number and of rows, as it comes in. -/
theorem open_cards {H : Type} {enc : TypeId × Value → H} {W : World} {base : Nat} {v0 : Value} {d0 : DataW H} {p0 : List MemPlace} (hval : Value.okWide Try.prog W .any base 24 v0)
    (h0 : DataW.Trod enc Try.prog W 0 (fun _ => true) true 24 v0 d0 p0) :
    ∃ (num : Int) (A : Option Addr) (cap : Nat) (l : List (List Int)), v0 = .agg #[.int .i64 num, .slice A l.length cap] ∧ (Lit.int .i64 num).wf = true ∧ l.length ≤ cap ∧ l.length ≤ maxLen ∧
      (∀ x ∈ l, x.length ≤ maxLen ∧ ∀ y ∈ x, (Lit.int .i64 y).wf = true) ∧ Kd.C (Kd.slice 3 (Kd.int .i64)) W A l.length l := by
  obtain ⟨cs, rfl, hsz⟩ := okWide_struct Try.underlying24 hval
  obtain ⟨fuel, hf⟩ := h0
  obtain ⟨y0, y1, n, hx, hlen, hy0, hy1⟩ := trod_struct2 Try.underlying24 hf
  have c27 : Try.prog.cellsOf 24 = 2 := by kernel_rfl
  have c3 : Try.prog.cellsOf 3 = 1 := by kernel_rfl
  have c22 : Try.prog.cellsOf 22 = 1 := by kernel_rfl
  rw [c27] at hsz
  obtain ⟨cl⟩ := cs
  match cl, hsz with
  | [x0, x1], _ =>
    rw [c3] at hy0
    rw [c22] at hy1
    have hy0' : DataW.trod enc Try.prog W 0 (fun _ => true) true n 3 [x0] = some y0 := hy0
    have hy1' : DataW.trod enc Try.prog W 0 (fun _ => true) true n 22 [x1] = some y1 := hy1
    obtain ⟨num, e1, _, wf⟩ := DataW.trod_int Try.underlying3 hy0'
    obtain rfl : x0 = .int .i64 num := by simpa using e1
    rcases Go.Deep.open_int_rows Try.underlying22 Try.underlying46 Try.underlying3 (by kernel_rfl) (by kernel_rfl) hy1' with ⟨hcs, _⟩ | ⟨a, len, cap, A, L, C, Z, hcs, _, hl, hm, _, hrows⟩
    · obtain rfl : x1 = .slice none 0 0 := by simpa using hcs
      exact ⟨num, none, 0, [], rfl, wf, Nat.le_refl _, Nat.zero_le _, fun x hx => by simp at hx, rfl, by simp, fun h => absurd h (by simp)⟩
    · obtain rfl : x1 = .slice (some a) len cap := by simpa using hcs
      have hll : ((List.range len).map fun r => (Z r).take (L r)).length = len := by simp
      have hrl : ∀ r, r < len → ((Z r).take (L r)).length = L r := fun r hr => by
        obtain ⟨_, h2, _, h4, _⟩ := hrows r (by omega)
        rw [List.length_take]; omega
      refine ⟨num, some a, cap, (List.range len).map fun r => (Z r).take (L r), by rw [hll], wf, by rw [hll]; exact hl, by rw [hll]; omega, fun x hx => ?_, by rw [hll], by rw [hll]; unfold maxLen at hm; omega, fun _ => ⟨a, rfl, fun j p hj => ?_⟩⟩
      · obtain ⟨r, hr, rfl⟩ := List.mem_map.1 hx
        have hr' := List.mem_range.1 hr
        obtain ⟨_, h2, h3, h4, h5, _⟩ := hrows r (by omega)
        exact ⟨by rw [hrl r hr']; omega, fun y hy => h5 y (List.mem_of_mem_take hy)⟩
      · obtain ⟨hj1, hj2⟩ := List.getElem?_eq_some_iff.1 hj
        rw [hll] at hj1
        have hp : p = (Z j).take (L j) := by rw [← hj2]; simp
        obtain ⟨h1, h2, h3, h4, h5, h6, h7⟩ := hrows j (by omega)
        have hpl : p.length = L j := by rw [hp]; exact hrl j hj1
        refine ⟨[.slice (A j) p.length (C j)], rfl, ⟨A j, C j, rfl, by omega, ?_⟩, fun i u hu => ?_⟩
        · refine Kd.C_of_reads (d := (0 : Int)) (h1 := fun _ => rfl) ⟨rfl, by unfold maxLen at h3; omega, fun hn => ?_⟩
          cases ha : A j with
          | none => have := h6 ha; omega
          | some a' =>
            refine ⟨a', rfl, fun i hi => ?_⟩
            rw [(h7 a' ha).2 i (by omega), hp]
            simp only [List.getD]
            rw [List.getElem?_take_of_lt (by omega)]
        · cases i with
          | zero =>
            simp only [List.getElem?_cons_zero, Option.some.injEq] at hu
            subst hu
            show W.cell? (a.add (j * 1 + 0)) = some (.slice (A j) p.length (C j))
            rw [Nat.mul_one, Nat.add_zero, h1, hpl]
          | succ i => simp at hu

set_option maxRecDepth 100000 in
theorem lifted (os : Os) (started : os.Started) (H : Type) (enc : TypeId × Value → H) :
    ReturnsInHanded {} Try.checked os 7 .any (Rows.fnExactTellsAllSpec.pre6 enc Try.prog Try.f7 Rows.fnExactTellsAllRow.domain false) (Rows.fnExactTellsAllSpec.post enc Try.prog Try.f7 false true false false) := by
  refine returnsInHanded_of_change_sized (C := Try.checked) own started (by kernel_rfl) Try.func7
    (ChangeSpec.witness6 (enc := enc) (C := Try.checked) false ⟨#[], #[.agg #[.int .i64 0, .slice none 0 0]], []⟩ 8 (by kernel_rfl) (by kernel_rfl) (by kernel_rfl) (by kernel_rfl)) ?_
  intro W base args ds gs before hval0 hW hcnd hsz0 _
  have hsz : (DataW.weightsEach Try.prog (Try.f7.params.toList ++ Rows.fnExactTellsAllSpec.plain.varTypes Try.prog) (ds ++ gs)).all (· ≤ reachBytes) = true := hsz0
  have hval : ∀ (j : Nat) t v, Try.f7.params[j]? = some t → args[j]? = some v → Value.okWide Try.prog W .any base t v := hval0
  have hW' := hW
  obtain ⟨p, q, hA0, hV, rfl, hfz, hnd⟩ := hW
  have hA : DataW.TrodAll enc Try.prog W 0 (fun _ => true) true Try.f7.params.toList args.toList ds p := hA0
  rw [Try.params7] at hA hval hsz
  obtain ⟨v0, vs0, d0, ds0, p0, q0, hargs, rfl, rfl, h0, r0⟩ := trodAll_cons hA
  obtain ⟨rfl, rfl, rfl⟩ := trodAll_nil r0
  obtain rfl : args = #[v0] := by cases args; simp_all
  obtain ⟨rfl, rfl⟩ := trodVars_none hV
  have k0 := h0
  have lt0 : ∀ x ∈ p0, x.block < W.heap.size := by obtain ⟨m, hm⟩ := k0; exact DataW.trod_lt m _ _ _ hm
  obtain ⟨num, A0, cap0, rows0, rfl, wn, hcap, hmax, hin, hC⟩ := open_cards (hval 0 24 v0 rfl rfl) h0
  clear hA0 hval0 hsz0 hsz
  obtain ⟨k, hk⟩ := Pure.FnExactTellsAll num rows0 wn hmax hin
  refine (Te.laws_FnExactTellsAll.calls k num A0 cap0 rows0 true W hC hcap hk).mono fun e W' ⟨he, bel⟩ => ?_
  subst he
  exact ⟨_, rfl, _, _, _, [], _, [], hW', trodAll_mk1 (shut_bool Try.underlying4 _), (trodAll_cons_mk (Below.trod laidOut (by kernel_rfl) (of_decide_eq_true (by kernel_rfl)) k0 bel lt0) trodAll_mk0), rfl, bel.frame _, fun h => by cases h⟩
theorem over : Rows.fnExactTellsAllRow.holds Try.pinned (OpenSpec.ofChange Rows.fnExactTellsAllSpec) :=
  OpenClaim.holds_of_wide 7 Try.f7 rfl rfl rfl rfl rfl rfl rfl ⟨rfl, rfl, rfl, rfl, rfl⟩ rfl rfl rfl rfl rfl (by kernel_rfl) Try.func7 (by kernel_rfl)
    (of_decide_eq_true (by kernel_rfl)) (by unfold Func.isWrapper; first | (rw [if_pos (by decide +kernel)]; kernel_rfl) | (rw [if_neg (by decide +kernel)]; exact ⟨rfl, rfl⟩))
    (fun os started H enc _ => lifted os started H enc)
theorem proved : Rows.FnExactTellsAllSaid := over
#print axioms proved
end Go.Proofs.Ytpekdmadmggbpaa.fnExactTellsAll
namespace Go.Proofs.Ytpekdmadmggbpaa
/-- The row, under a short name, for the claim. -/
theorem fnExactTellsAll_holds : Rows.FnExactTellsAllSaid := fnExactTellsAll.proved
end Go.Proofs.Ytpekdmadmggbpaa
