/- The program's RulerText answers as the reference's does, for every list. -/
import Derived.Test.YtlkgojgmgdeieaaDoorRule0
import Derived.Test.YtlkgojgmgdeieaaDoorGx5
import Derived.Test.YtlkgojgmgdeieaaDoorGx3
import Derived.Test.YtlkgojgmgdeieaaDoorGx4
import Derived.Test.YtlkgojgmgdeieaaDoorGx2
namespace Go.Proofs.YtlkgojgmgdeieaaDoor.Pure
open Go.RowKit Go.Proofs.YtlkgojgmgdeieaaDoor.G Go.Proofs.YtlkgojgmgdeieaaDoorW.PrintWords Go.Proofs.YtlkgojgmgdeieaaDoorW.PrintLast

/-- The digits of a number below a hundred. -/
def dig (m : Nat) : List UInt8 := if m < 10 then [UInt8.ofNat (48 + m)] else [UInt8.ofNat (48 + m / 10), UInt8.ofNat (48 + m % 10)]
theorem dig_len (m : Nat) : (dig m).length ≤ 2 := by unfold dig; split <;> simp
theorem dec_dig (m : Nat) (h : m < 100) : Go.Lib.decDigits m = dig m := by
  unfold dig
  rw [Go.Lib.decDigits]
  by_cases h1 : m < 10
  · rw [dif_pos h1, if_pos h1]
  · rw [dif_neg h1, if_neg h1, Go.Lib.decDigits, dif_pos (by omega)]
    rfl
abbrev BA (l : List UInt8) : ByteArray := ⟨l.toArray⟩
theorem BA_app (a b : List UInt8) : BA a ++ BA b = BA (a ++ b) := by
  apply ByteArray.ext
  rw [ByteArray.data_append]
  simp
theorem BA_size (a : List UInt8) : (BA a).size = a.length := by
  show a.toArray.size = a.length
  simp
theorem num_all : ((List.range 61).all fun m => decide ((spec_l1Num.f 3 (m : Int)).map (fun b => b.data.toList) = some (dig m))) = true := by kernel_rfl
theorem num_ev (m : Nat) (h : m ≤ 60) : Ev (fun k => spec_l1Num.f k (m : Int)) (BA (dig m)) := by
  have h1 := of_decide_eq_true (List.all_eq_true.1 num_all m (List.mem_range.2 (by omega)))
  obtain ⟨b, h2, h3⟩ := Option.map_eq_some_iff.1 h1
  have e : b = BA (dig m) := by
    apply ByteArray.ext
    rw [← h3]
  rw [e] at h2
  exact Ev.of (fun k => spec_l1Num.mono _ k) h2
/-- The texts of the marks. -/
def digs (l : List Int) : List (List UInt8) := l.map fun x => dig x.toNat
def jn (D : List (List UInt8)) : List UInt8 := Go.Lib.join D [124]
theorem jn_one (x : List UInt8) : jn [x] = x := Go.Lib.join_one x [124]
theorem jn_snoc (x : List UInt8) (r : List (List UInt8)) (y : List UInt8) : jn (x :: r ++ [y]) = jn (x :: r) ++ ([124] ++ y) := by
  unfold jn
  rw [List.cons_append, Go.Lib.join_cons, Go.Lib.join_cons]
  simp [Go.Lib.joinTail, List.append_assoc]
theorem jn_len (D : List (List UInt8)) (h : ∀ x ∈ D, x.length ≤ 2) : (jn D).length ≤ 3 * D.length := by
  cases D with
  | nil => simp [jn, Go.Lib.join_nil]
  | cons x r =>
    unfold jn
    rw [Go.Lib.join_cons, List.length_append]
    have hx := h x List.mem_cons_self
    have ht : ∀ r : List (List UInt8), (∀ y ∈ r, y.length ≤ 2) → (Go.Lib.joinTail [124] r).length ≤ 3 * r.length := by
      intro r
      induction r with
      | nil => intro _; simp [Go.Lib.joinTail]
      | cons y r ih =>
        intro hr
        have h1 := hr y List.mem_cons_self
        have h2 := ih (fun z hz => hr z (List.mem_cons_of_mem _ hz))
        have e : Go.Lib.joinTail [124] (y :: r) = [124] ++ y ++ Go.Lib.joinTail [124] r := by simp [Go.Lib.joinTail]
        rw [e]
        simp only [List.length_append, List.length_cons, List.length_nil]
        omega
    have := ht r (fun z hz => h z (List.mem_cons_of_mem _ hz))
    rw [List.length_cons]
    omega
section
variable (l : List Int) (hl : l.length ≤ 61) (hc : ∀ x ∈ l, 0 ≤ x ∧ x ≤ 60)
include hl hc
omit hl hc in
theorem digs_two (l : List Int) : ∀ x ∈ digs l, x.length ≤ 2 := fun x hx => by
  obtain ⟨y, _, rfl⟩ := List.mem_map.1 hx
  exact dig_len _
theorem text_loop (d : Nat) : ∀ i : Nat, l.length - i = d → i ≤ l.length →
    Ev (fun k => spec_ruText.l0 k (BA (jn (digs (l.take i)))) l (l.length : Int) (i : Int)) (BA (jn (digs l))) := by
  induction d with
  | zero =>
    intro i hd hi
    refine Ev.one fun k => ?_
    rw [spec_ruText.l0, if_neg (by omega), List.take_of_length_le (by omega)]
  | succ d ih =>
    intro i hd hi
    have hil : i < l.length := by omega
    have hci := hc l[i] (List.getElem_mem hil)
    have h := ih (i + 1) (by omega) (by omega)
    obtain ⟨m, hm⟩ : ∃ m : Nat, l[i] = m := ⟨l[i].toNat, by omega⟩
    have hnum := num_ev m (by omega)
    have hlen := jn_len (digs (l.take i)) (digs_two _)
    have hdl : (digs (l.take i)).length = i := by unfold digs; simp; omega
    have hm2 := dig_len m
    rw [List.take_succ_eq_append_getElem hil] at h
    have e0 : digs (l.take i ++ [l[i]]) = digs (l.take i) ++ [dig m] := by unfold digs; rw [List.map_append, hm]; rfl
    rw [e0] at h
    have w1 : wrap64 ((i : Int) + 1) = ((i + 1 : Nat) : Int) := by rw [w64 (by omega) (by omega)]; rfl
    by_cases h0 : i = 0
    · subst h0
      refine Ev.step (f := fun k => (spec_l1Num.f k (m : Int)).bind fun t115 => (if (BA (jn (digs (l.take 0)))).size + t115.size ≤ 9223372036854775807 then (spec_ruText.l0 k (BA (jn (digs (l.take 0))) ++ t115) l (l.length : Int) ((0 + 1 : Nat) : Int)) else (none))) (fun k => ?_) ?_
      · rw [spec_ruText.l0, if_pos (by omega), if_pos (by omega), if_pos (by omega), if_neg (by omega), rd_eq l 0 hil, hm, w1]
      · refine Ev.bind hnum (Ev.if_pos' (by rw [BA_size, BA_size]; omega) ?_)
        rw [BA_app]
        have e1 : jn (digs (l.take 0)) ++ dig m = jn (digs (l.take 0) ++ [dig m]) := by
          show jn [] ++ dig m = jn ([] ++ [dig m])
          rw [List.nil_append, jn_one]; rfl
        rw [e1]
        exact h
    · refine Ev.step (f := fun k => (spec_l1Num.f k (m : Int)).bind fun t114 => (if (BA (jn (digs (l.take i))) ++ (⟨#[124]⟩ : ByteArray)).size + t114.size ≤ 9223372036854775807 then (spec_ruText.l0 k ((BA (jn (digs (l.take i))) ++ (⟨#[124]⟩ : ByteArray)) ++ t114) l (l.length : Int) ((i + 1 : Nat) : Int)) else (none))) (fun k => ?_) ?_
      · rw [spec_ruText.l0, if_pos (by omega), if_pos (by omega), if_pos (by omega), if_pos (by omega), if_pos (by rw [BA_size]; omega), rd_eq l i hil, hm, w1]
      · have eb : (⟨#[124]⟩ : ByteArray) = BA [124] := rfl
        rw [eb, BA_app]
        refine Ev.bind hnum (Ev.if_pos' (by rw [BA_size, BA_size, List.length_append, List.length_singleton]; omega) ?_)
        rw [BA_app]
        obtain ⟨x, r, hxr⟩ : ∃ x r, digs (l.take i) = x :: r := by
          cases hx : digs (l.take i) with
          | nil => rw [hx] at hdl; simp at hdl; omega
          | cons x r => exact ⟨x, r, rfl⟩
        rw [hxr] at h ⊢
        rw [jn_snoc] at h
        rw [List.append_assoc]
        exact h
theorem words_loop (h2 : 0 < l.length) (d : Nat) : ∀ i : Nat, l.length - i = d → i ≤ l.length →
    Ev (fun k => impl_joined.l0 k (⟨#[124]⟩ : ByteArray) ((digs (l.take i)).map BA) l (l.length : Int) (i : Int)) (BA (jn (digs l))) := by
  induction d with
  | zero =>
    intro i hd hi
    have hlen := jn_len (digs l) (digs_two _)
    have hdl : (digs l).length = l.length := by unfold digs; simp
    have em : ((digs l).map BA).map (fun b : ByteArray => b.data.toList) = digs l := by
      rw [List.map_map]
      conv => rhs; rw [← List.map_id (digs l)]
      exact List.map_congr_left fun x _ => by simp
    have hj : strings_Join.f ((digs l).map BA) (⟨#[124]⟩ : ByteArray) = some (BA (jn (digs l))) := by
      unfold strings_Join.f
      rw [em]
      rw [if_pos ⟨by rw [List.length_map]; omega, by rw [List.length_map]; omega, by show (jn (digs l)).length ≤ 1000000; omega⟩]
      rfl
    refine Ev.one fun k => ?_
    rw [impl_joined.l0, if_neg (by omega), List.take_of_length_le (by omega), hj]
    rfl
  | succ d ih =>
    intro i hd hi
    have hil : i < l.length := by omega
    have hci := hc l[i] (List.getElem_mem hil)
    have h := ih (i + 1) (by omega) (by omega)
    obtain ⟨m, hm⟩ : ∃ m : Nat, l[i] = m := ⟨l[i].toNat, by omega⟩
    have hdl : (digs (l.take i)).length = i := by unfold digs; simp; omega
    rw [List.take_succ_eq_append_getElem hil] at h
    have e0 : digs (l.take i ++ [l[i]]) = digs (l.take i) ++ [dig m] := by unfold digs; rw [List.map_append, hm]; rfl
    rw [e0, List.map_append] at h
    have hit : strconv_Itoa_15.f (m : Int) = some (BA (dig m)) := by
      unfold strconv_Itoa_15.f
      rw [if_pos ⟨by omega, by omega⟩, Int.toNat_natCast, dec_dig m (by omega)]
    refine Ev.step (fun k => ?_) h
    rw [impl_joined.l0, if_pos (by omega), if_pos (by omega), if_pos (by omega), rd_eq l i hil, hm, hit, Option.bind_some, if_pos (by rw [List.length_map]; omega), w64 (x := (i : Int) + 1) (by omega) (by omega)]
    rfl
end
theorem RulerText_ev (l : List Int) (hl : l.length ≤ 35184372088832) : ∃ r : ByteArray × Bool, Ev (fun k => spec_RulerText.f k l) r ∧ Ev (fun k => impl_RulerText.f k l) r := by
  unfold spec_RulerText.f impl_RulerText.f
  cases hr : rulerB l with
  | false => exact ⟨_, Ev.bind (ruGood_ev l hl) (Ev.if_neg' (by simp [hr]) (Ev.now _)), Ev.bind (IsRuler_ev l hl) (Ev.if_neg' (by simp [hr]) (Ev.now _))⟩
  | true =>
    have h1 := ruler_mem hr
    have h2 := ruler_len hr
    have h3 := ruler_two hr
    refine ⟨(BA (jn (digs l)), true), Ev.bind (ruGood_ev l hl) (Ev.if_pos' hr (Ev.bind (a := BA (jn (digs l))) ?_ (Ev.now _))), Ev.bind (IsRuler_ev l hl) (Ev.if_pos' hr (Ev.bind (a := BA (jn (digs l))) ?_ (Ev.now _)))⟩
    · unfold spec_ruText.f
      exact text_loop l h2 h1 l.length 0 (by omega) (by omega)
    · unfold impl_joined.f
      exact words_loop l h2 h1 (by omega) l.length 0 (by omega) (by omega)

theorem FnExactRulerText : laws_FnExactRulerText.Pure := by
  intro l _ _ _
  by_cases h : (l.length : Int) > 1048576
  · exact ⟨0, by unfold laws_FnExactRulerText.f; rw [if_pos h]⟩
  have hl : l.length ≤ 35184372088832 := by omega
  obtain ⟨r, hs, hi⟩ := RulerText_ev l hl
  apply Ev.rounds
  unfold laws_FnExactRulerText.f
  refine Ev.if_neg' h (Ev.bind (toIntS_ev l hl) (Ev.bind hs (Ev.bind (toIntS_ev l hl) (Ev.bind hi (Ev.if_pos' rfl ?_)))))
  rw [show (r.2 != r.2) = false by simp]
  exact Ev.step (fun k => by rw [laws_FnExactRulerText.j0, if_neg (by simp)]) (Ev.bind (toIntS_ev l hl) (Ev.bind (eqIntS_self l hl) (Ev.if_pos' rfl (Ev.now _))))

end Go.Proofs.YtlkgojgmgdeieaaDoor.Pure
