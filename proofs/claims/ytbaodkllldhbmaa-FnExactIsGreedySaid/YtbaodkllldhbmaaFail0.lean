/- Plain lemmas: the tables of failures, by the program and by the reference. -/
import Derived.Test.YtbaodkllldhbmaaFailThm
import Derived.Test.YtbaodkllldhbmaaGx8
import Derived.Test.YtbaodkllldhbmaaGx10
namespace Go.Proofs.Ytbaodkllldhbmaa.Pure
open Go.RowKit Go.Proofs.Ytbaodkllldhbmaa.G Go.Proofs.YtbaodkllldhbmaaW.PrintWords Go.Proofs.YtbaodkllldhbmaaW.PrintLast

section
variable (l : List Int) (hlen : l.length ≤ 8) (hc : ∀ x ∈ l, 1 ≤ x ∧ x ≤ 1000) (m : Nat) (hm : m ≤ 2000000)
include hlen hc hm
theorem gr_facts (v : Nat) (hv : v ≤ m) : (∀ x ∈ (gr l v).1, 0 ≤ x) ∧ (gr l v).1.sum ≤ 2000000 ∧ (gr l v).1.length ≤ 8 := by
  obtain ⟨h1, h2, h3⟩ := gr_sum l v (by omega) (by omega) (fun x hx => (hc x hx).1)
  exact ⟨h1, by omega, by rw [gr_length]; exact hlen⟩
theorem cnFails_loop (d : Nat) : ∀ v : Nat, m + 1 - v = d → v ≤ m + 1 →
    Ev (fun k => spec_cnFails.l0 k l ((List.range v).map (failB l) ++ List.replicate (m + 1 - v) false) ((fewT l m).map encS) (((fewT l m).map encS).length : Int) (v : Int)) ((List.range (m + 1)).map (failB l)) := by
  have hT : ((fewT l m).map encS).length = m + 1 := by simp [fewT_length]
  induction d with
  | zero =>
    intro v hd hv
    have : v = m + 1 := by omega
    subst this
    refine Ev.one fun k => ?_
    rw [spec_cnFails.l0, if_neg (by omega)]
    simp
  | succ d ih =>
    intro v hd hv
    have w1 : wrap64 ((v : Int) + 1) = ((v + 1 : Nat) : Int) := by rw [w64 (by omega) (by omega)]; rfl
    have hrd : rd ((fewT l m).map encS) (v : Int) = encS (few l v) := tab_rd encS l m v (by omega)
    have hol : ((List.range v).map (failB l) ++ List.replicate (m + 1 - v) false).length = m + 1 := by simp; omega
    have hset : ((List.range v).map (failB l) ++ List.replicate (m + 1 - v) false).set (v : Int).toNat (failB l v) = (List.range (v + 1)).map (failB l) ++ List.replicate (m + 1 - (v + 1)) false := by
      rw [show m + 1 - v = (m + 1 - (v + 1)) + 1 by omega, List.replicate_succ, Int.toNat_natCast, List.set_append_right _ _ (by simp), List.range_succ]
      simp
    obtain ⟨f1, f2, f3⟩ := gr_facts l hlen hc m hm v (by omega)
    have h := ih (v + 1) (by omega) (by omega)
    rw [← hset] at h
    have pre : ∀ k, spec_cnFails.l0 (k + 1) l ((List.range v).map (failB l) ++ List.replicate (m + 1 - v) false) ((fewT l m).map encS) (((fewT l m).map encS).length : Int) (v : Int) =
        (spec_cnGreedy.f k l (v : Int)).bind fun b => if encS (few l v) ≥ 0 then (if b.2 = true then (spec_piSum.f k b.1).bind fun t => (if (v : Int) < (((List.range v).map (failB l) ++ List.replicate (m + 1 - v) false).length : Int) then spec_cnFails.l0 k l (((List.range v).map (failB l) ++ List.replicate (m + 1 - v) false).set (v : Int).toNat (decide (t > encS (few l v)))) ((fewT l m).map encS) (((fewT l m).map encS).length : Int) ((v + 1 : Nat) : Int) else none)
            else (if (v : Int) < (((List.range v).map (failB l) ++ List.replicate (m + 1 - v) false).length : Int) then spec_cnFails.l0 k l (((List.range v).map (failB l) ++ List.replicate (m + 1 - v) false).set (v : Int).toNat true) ((fewT l m).map encS) (((fewT l m).map encS).length : Int) ((v + 1 : Nat) : Int) else none))
          else (if (v : Int) < (((List.range v).map (failB l) ++ List.replicate (m + 1 - v) false).length : Int) then spec_cnFails.l0 k l (((List.range v).map (failB l) ++ List.replicate (m + 1 - v) false).set (v : Int).toNat false) ((fewT l m).map encS) (((fewT l m).map encS).length : Int) ((v + 1 : Nat) : Int) else none) := fun k => by
      rw [spec_cnFails.l0, if_pos (by omega), if_pos (by omega), if_pos (by omega), hrd, w1]
    refine Ev.step pre (Ev.bind (cnGreedy_ev l v (by omega) hc) ?_)
    cases hf : few l v with
    | none =>
      have hb : failB l v = false := by unfold failB; rw [hf]
      rw [hb] at h
      exact Ev.if_neg' (by simp [encS]) (Ev.if_pos' (by omega) h)
    | some n =>
      refine Ev.if_pos' (by simp [encS]) ?_
      by_cases h0 : (gr l (v : Int)).2 = 0
      · have hb : failB l v = decide ((gr l (v : Int)).1.sum > encS (some n)) := by unfold failB; rw [hf]; simp [h0, encS]
        rw [hb] at h
        exact Ev.if_pos' (by simp [h0]) (Ev.bind (piSum_ev (gr l (v : Int)).1 (by omega) f1 (by omega)) (Ev.if_pos' (by omega) h))
      · have hb : failB l v = true := by unfold failB; rw [hf]; simp [h0]
        rw [hb] at h
        exact Ev.if_neg' (by simp [h0]) (Ev.if_pos' (by omega) h)
theorem cnFails_ev : Ev (fun k => spec_cnFails.f k l (m : Int)) ((List.range (m + 1)).map (failB l)) := by
  unfold spec_cnFails.f
  have e : wrap64 ((m : Int) + 1) = ((m + 1 : Nat) : Int) := by rw [w64 (by omega) (by omega)]; rfl
  refine Ev.if_pos' (by omega) (Ev.if_pos' (by omega) (Ev.bind (cnFew_ev l hc (by omega) m hm) ?_))
  have h := cnFails_loop l hlen hc m hm (m + 1) 0 (by omega) (by omega)
  rw [e, Int.toNat_natCast]
  simpa using h
def failsFrom (v d : Nat) : List Int := ((List.range' v d).filter (failB l)).map Int.ofNat
omit hlen hc hm in
theorem failsFrom_succ (v d : Nat) : failsFrom l v (d + 1) = if failB l v = true then (v : Int) :: failsFrom l (v + 1) d else failsFrom l (v + 1) d := by
  unfold failsFrom
  rw [List.range'_succ, List.filter_cons]
  split <;> rfl
theorem failures_loop (d : Nat) : ∀ (v : Nat) (acc : List Int), m + 1 - v = d → v ≤ m + 1 → acc.length ≤ v →
    Ev (fun k => impl_failures.l0 k l (m : Int) acc ((fewT l m).map (encP m)) (((fewT l m).map (encP m)).length : Int) (v : Int)) (acc ++ failsFrom l v d) := by
  have hT : ((fewT l m).map (encP m)).length = m + 1 := by simp [fewT_length]
  induction d with
  | zero =>
    intro v acc hd hv ha
    refine Ev.one fun k => ?_
    rw [impl_failures.l0, if_neg (by omega)]
    simp [failsFrom]
  | succ d ih =>
    intro v acc hd hv ha
    have w1 : wrap64 ((v : Int) + 1) = ((v + 1 : Nat) : Int) := by rw [w64 (by omega) (by omega)]; rfl
    have hrd : rd ((fewT l m).map (encP m)) (v : Int) = encP m (few l v) := tab_rd (encP m) l m v (by omega)
    obtain ⟨f1, f2, f3⟩ := gr_facts l hlen hc m hm v (by omega)
    have hno := ih (v + 1) acc (by omega) (by omega) (by omega)
    have hyes := ih (v + 1) (acc ++ [(v : Int)]) (by omega) (by omega) (by simp; omega)
    rw [List.append_assoc] at hyes
    have hle := few_le l (fun x hx => (hc x hx).1) v
    have pre : ∀ k, impl_failures.l0 (k + 1) l (m : Int) acc ((fewT l m).map (encP m)) (((fewT l m).map (encP m)).length : Int) (v : Int) =
        if encP m (few l v) > (m : Int) then impl_failures.l0 k l (m : Int) acc ((fewT l m).map (encP m)) (((fewT l m).map (encP m)).length : Int) ((v + 1 : Nat) : Int) else
          (impl_greedy.f l (v : Int)).bind fun b => if b.2 = true then (impl_total.f k b.1).bind fun t => (if t > encP m (few l v) then (if acc.length < 17592186044416 then impl_failures.l0 k l (m : Int) (acc ++ [(v : Int)]) ((fewT l m).map (encP m)) (((fewT l m).map (encP m)).length : Int) ((v + 1 : Nat) : Int) else none) else impl_failures.l0 k l (m : Int) acc ((fewT l m).map (encP m)) (((fewT l m).map (encP m)).length : Int) ((v + 1 : Nat) : Int))
            else (if acc.length < 17592186044416 then impl_failures.l0 k l (m : Int) (acc ++ [(v : Int)]) ((fewT l m).map (encP m)) (((fewT l m).map (encP m)).length : Int) ((v + 1 : Nat) : Int) else none) := fun k => by
      rw [impl_failures.l0, if_pos (by omega), if_pos (by omega), if_pos (by omega), hrd, w1]
    refine Ev.step pre ?_
    rw [failsFrom_succ]
    cases hf : few l v with
    | none =>
      have hb : failB l v = false := by unfold failB; rw [hf]
      rw [hb, if_neg (by simp)]
      exact Ev.if_pos' (by simp only [encP]; omega) hno
    | some n =>
      have hn := hle n hf
      refine Ev.if_neg' (by simp only [encP]; omega) (Ev.const_bind (greedy_eq l v (by omega) hc) ?_)
      by_cases h0 : (gr l (v : Int)).2 = 0
      · have hb : failB l v = decide ((gr l (v : Int)).1.sum > encP m (some n)) := by unfold failB; rw [hf]; simp [h0, encP]
        refine Ev.if_pos' (by simp [h0]) (Ev.bind (total_ev (gr l (v : Int)).1 (by omega) f1 (by omega)) ?_)
        rw [hb]
        by_cases hs : (gr l (v : Int)).1.sum > encP m (some n)
        · rw [if_pos (decide_eq_true hs)]
          exact Ev.if_pos' hs (Ev.if_pos' (by omega) (by simpa using hyes))
        · rw [if_neg (by rw [decide_eq_false hs]; simp)]
          exact Ev.if_neg' hs hno
      · have hb : failB l v = true := by unfold failB; rw [hf]; simp [h0]
        rw [hb, if_pos rfl]
        exact Ev.if_neg' (by simp [h0]) (Ev.if_pos' (by omega) (by simpa using hyes))
theorem failures_ev : Ev (fun k => impl_failures.f k l (m : Int)) (failsFrom l 0 (m + 1)) := by
  unfold impl_failures.f
  refine Ev.bind (fewStamps_ev l hc (by omega) m hm) ?_
  simpa using failures_loop l hlen hc m hm (m + 1) 0 [] (by omega) (by omega) (by simp)
omit hlen hc hm in
theorem failsFrom_length (v d : Nat) : (failsFrom l v d).length ≤ d := by
  unfold failsFrom
  rw [List.length_map]
  have := List.length_filter_le (failB l) (List.range' v d)
  simpa using this
end

end Go.Proofs.Ytbaodkllldhbmaa.Pure
