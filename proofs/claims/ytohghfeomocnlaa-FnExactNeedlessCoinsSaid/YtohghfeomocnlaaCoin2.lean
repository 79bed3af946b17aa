/- Plain lemmas: the fewest coins for each amount, and that the program's and the reference's tables hold them. -/
import Derived.Test.YtohghfeomocnlaaCoin1
import Derived.Test.YtohghfeomocnlaaGx8
import Derived.Test.YtohghfeomocnlaaGx10
namespace Go.Proofs.Ytohghfeomocnlaa.Pure
open Go.RowKit Go.Proofs.Ytohghfeomocnlaa.G Go.Proofs.YtohghfeomocnlaaW.PrintWords Go.Proofs.YtohghfeomocnlaaW.PrintLast

theorem getD_lt {α : Type} (A B : List α) (d : α) (i : Nat) (h : i < A.length) : (A ++ B).getD i d = A.getD i d := by simp [List.getD, List.getElem?_append_left h]
theorem getD_ge {α : Type} (A B : List α) (d : α) (i : Nat) (h : A.length ≤ i) : (A ++ B).getD i d = B.getD (i - A.length) d := by simp [List.getD, List.getElem?_append_right h]
theorem getD_out {α : Type} (A : List α) (d : α) (i : Nat) (h : A.length ≤ i) : A.getD i d = d := by simp [List.getD, List.getElem?_eq_none h]
theorem mn_lt {a b : Int} (h : b < a) : mn a b = b := if_pos h
theorem mn_ge {a b : Int} (h : a ≤ b) : mn a b = a := if_neg (by omega)
def omin : Option Nat → Option Nat → Option Nat
  | none, b => b
  | some a, none => some a
  | some a, some b => some (if b < a then b else a)
def best (T : List (Option Nat)) (v : Nat) : List Int → Option Nat → Option Nat
  | [], acc => acc
  | c :: cs, acc => best T v cs (if c ≤ v then omin acc ((T.getD (v - c.toNat) none).map (· + 1)) else acc)
/-- The fewest coins for 0, 1, .., n. -/
def fewT (cs : List Int) : Nat → List (Option Nat)
  | 0 => [some 0]
  | n + 1 => fewT cs n ++ [best (fewT cs n) (n + 1) cs none]
def few (cs : List Int) (v : Nat) : Option Nat := (fewT cs v).getD v none
theorem fewT_length (cs : List Int) (n : Nat) : (fewT cs n).length = n + 1 := by
  induction n with
  | zero => rfl
  | succ n ih => simp [fewT, ih]
theorem fewT_get (cs : List Int) (n v : Nat) (h : v ≤ n) : (fewT cs n).getD v none = few cs v := by
  induction n with
  | zero => have : v = 0 := by omega
            subst this; rfl
  | succ n ih =>
    by_cases e : v = n + 1
    · subst e; rfl
    · rw [← ih (by omega), fewT, getD_lt _ _ _ _ (by rw [fewT_length]; omega)]
theorem few_zero (cs : List Int) : few cs 0 = some 0 := rfl
theorem few_succ (cs : List Int) (n : Nat) : few cs (n + 1) = best (fewT cs n) (n + 1) cs none := by
  unfold few
  rw [fewT, getD_ge _ _ _ _ (by rw [fewT_length]; omega), fewT_length]
  simp

/-- How the reference writes it; how the program writes it in a table up to m. -/
def encS : Option Nat → Int
  | none => -1
  | some n => n
def encP (m : Nat) : Option Nat → Int
  | none => m + 1
  | some n => n
theorem rd_app_lt (A B : List Int) (i : Nat) (h : i < A.length) : rd (A ++ B) (i : Int) = A.getD i 0 := by
  rw [rd_nat, getD_lt _ _ _ _ h]
theorem rd_app_at (A : List Int) (x : Int) (B : List Int) : rd (A ++ x :: B) (A.length : Int) = x := by
  rw [rd_nat, getD_ge _ _ _ _ (by omega)]; simp
theorem set_at (A : List Int) (x y : Int) (B : List Int) : (A ++ x :: B).set A.length y = A ++ y :: B := by
  simp
theorem getD_map {α : Type} (f : α → Int) (A : List α) (d : α) (i : Nat) (h : i < A.length) : (A.map f).getD i 0 = f (A.getD i d) := by
  simp [List.getD, h]

theorem best_le (T : List (Option Nat)) (v : Nat) (hT : ∀ i n, T.getD i none = some n → n ≤ i) (cs : List Int) (hc : ∀ x ∈ cs, 1 ≤ x) : ∀ acc, (∀ n, acc = some n → n ≤ v) → ∀ n, best T v cs acc = some n → n ≤ v := by
  induction cs with
  | nil => intro acc ha n h; exact ha n h
  | cons c cs ih =>
    intro acc ha n h
    refine ih (fun x hx => hc x (List.mem_cons_of_mem _ hx)) _ (fun m hm => ?_) n h
    have h1 := hc c List.mem_cons_self
    by_cases hcv : c ≤ v
    · rw [if_pos hcv] at hm
      cases hg : T.getD (v - c.toNat) none with
      | none => rw [hg] at hm; cases acc with
        | none => simp [omin] at hm
        | some a => simp [omin] at hm; exact ha m (by rw [hm])
      | some b =>
        have hb := hT _ _ hg
        rw [hg] at hm; cases acc with
        | none => simp [omin] at hm; omega
        | some a =>
          have := ha a rfl
          simp [omin] at hm
          split at hm <;> omega
    · rw [if_neg hcv] at hm; exact ha m hm
theorem few_le (cs : List Int) (hc : ∀ x ∈ cs, 1 ≤ x) (v : Nat) : ∀ n, few cs v = some n → n ≤ v := by
  induction v using Nat.strongRecOn with
  | ind v ih =>
    intro n h
    cases v with
    | zero => rw [few_zero] at h; cases h; omega
    | succ v =>
      rw [few_succ] at h
      refine best_le _ _ (fun i m hm => ?_) cs hc none (fun _ h => by cases h) n h
      by_cases hi : i ≤ v
      · rw [fewT_get _ _ _ hi] at hm; exact ih i (by omega) m hm
      · rw [getD_out _ _ _ (by rw [fewT_length]; omega)] at hm; cases hm
theorem fewT_le (cs : List Int) (hc : ∀ x ∈ cs, 1 ≤ x) (v i n : Nat) (h : (fewT cs v).getD i none = some n) : n ≤ i := by
  by_cases hi : i ≤ v
  · rw [fewT_get _ _ _ hi] at h; exact few_le cs hc i n h
  · rw [getD_out _ _ _ (by rw [fewT_length]; omega)] at h; cases h

section
variable (cs : List Int) (hc : ∀ x ∈ cs, 1 ≤ x ∧ x ≤ 1000) (hl : cs.length ≤ 35184372088832) (m : Nat) (hm : m ≤ 2000000) (A : List (Option Nat)) (B : List Int)
  (hA : ∀ i n, A.getD i none = some n → n ≤ i) (hv : 1 ≤ A.length) (hvm : A.length + B.length = m) (hacc : Option Nat)
include hc hl hm hA hv hvm

set_option maxHeartbeats 1000000 in
theorem cnFew1 (r : List Int) (d : Nat) : ∀ (i : Nat) (acc : Option Nat), cs.length - i = d → i ≤ cs.length → (∀ n, acc = some n → n ≤ A.length) →
    Ev (fun k => spec_cnFew.l0 k cs (m : Int) (A.map encS ++ encS (best A A.length (cs.drop i) acc) :: B) (((A.length + 1 : Nat)) : Int)) r →
    Ev (fun k => spec_cnFew.l1 k cs (m : Int) (A.map encS ++ encS acc :: B) (A.length : Int) cs (cs.length : Int) (i : Int)) r := by
  induction d with
  | zero =>
    intro i acc hd hi ha h
    rw [List.drop_of_length_le (by omega)] at h
    refine Ev.step (fun k => ?_) h
    rw [spec_cnFew.l1, if_neg (by omega), w64 (by omega) (by omega)]
    rfl
  | succ d ih =>
    intro i acc hd hi ha h
    have hil : i < cs.length := by omega
    have hci := hc cs[i] (List.getElem_mem hil)
    have hlen : (A.map encS ++ encS acc :: B).length = m + 1 := by simp; omega
    rw [List.drop_eq_getElem_cons hil, best] at h
    have w1 : wrap64 ((i : Int) + 1) = ((i + 1 : Nat) : Int) := by rw [w64 (by omega) (by omega)]; rfl
    have hAl : (A.map encS).length = A.length := by simp
    have hat : rd (A.map encS ++ encS acc :: B) (A.length : Int) = encS acc := by rw [← hAl]; exact rd_app_at _ _ _
    have hset : ∀ y, (A.map encS ++ encS acc :: B).set (A.length : Int).toNat y = A.map encS ++ y :: B := fun y => by
      have := set_at (A.map encS) (encS acc) y B
      rw [hAl] at this; exact this
    by_cases hcv : cs[i] ≤ (A.length : Int)
    · rw [if_pos hcv] at h
      have w2 : wrap64 ((A.length : Int) - cs[i]) = ((A.length - cs[i].toNat : Nat) : Int) := by rw [w64 (by omega) (by omega)]; omega
      have hget : rd (A.map encS ++ encS acc :: B) ((A.length - cs[i].toNat : Nat) : Int) = encS (A.getD (A.length - cs[i].toNat) none) := by
        rw [rd_app_lt _ _ _ (by rw [hAl]; omega), getD_map _ _ none _ (by omega)]
      have pre : ∀ k, spec_cnFew.l1 (k + 1) cs (m : Int) (A.map encS ++ encS acc :: B) (A.length : Int) cs (cs.length : Int) (i : Int) =
          (if encS (A.getD (A.length - cs[i].toNat) none) ≥ 0 then (if encS acc < 0 then (spec_cnFew.l1 k cs (m : Int) (A.map encS ++ (wrap64 (encS (A.getD (A.length - cs[i].toNat) none) + 1)) :: B) (A.length : Int) cs (cs.length : Int) ((i + 1 : Nat) : Int))
            else (if wrap64 (encS (A.getD (A.length - cs[i].toNat) none) + 1) < encS acc then (spec_cnFew.l1 k cs (m : Int) (A.map encS ++ (wrap64 (encS (A.getD (A.length - cs[i].toNat) none) + 1)) :: B) (A.length : Int) cs (cs.length : Int) ((i + 1 : Nat) : Int))
              else (spec_cnFew.l1 k cs (m : Int) (A.map encS ++ encS acc :: B) (A.length : Int) cs (cs.length : Int) ((i + 1 : Nat) : Int))))
            else (spec_cnFew.l1 k cs (m : Int) (A.map encS ++ encS acc :: B) (A.length : Int) cs (cs.length : Int) ((i + 1 : Nat) : Int))) := fun k => by
        rw [spec_cnFew.l1, if_pos (by omega), if_pos (by omega), if_pos (by omega), rd_eq cs i hil, if_pos (by omega), w2, if_pos (by omega), if_pos (by omega), hget, w1, if_pos (show (0 : Int) ≤ (A.length : Int) by omega), if_pos (show (A.length : Int) < ((A.map encS ++ encS acc :: B).length : Int) by omega), hat, hset]
      clear hget hat hset hlen hAl
      cases hg : A.getD (A.length - cs[i].toNat) none with
      | none =>
        rw [hg] at h pre
        have e : omin acc (Option.map (· + 1) none) = acc := by cases acc <;> rfl
        rw [e] at h
        exact Ev.step (fun k => by rw [pre, if_neg (by simp [encS])]) (ih (i + 1) acc (by omega) (by omega) ha h)
      | some b =>
        have hb := hA _ _ hg
        rw [hg] at h pre
        have w3 : wrap64 (encS (some b) + 1) = encS (some (b + 1)) := by rw [w64 (by simp [encS]; omega) (by simp [encS]; omega)]; rfl
        rw [w3] at pre
        cases acc with
        | none => exact Ev.step (fun k => by rw [pre, if_pos (by simp [encS]), if_pos (by simp [encS])]) (ih (i + 1) (some (b + 1)) (by omega) (by omega) (fun n hn => by cases hn; omega) h)
        | some a =>
          have ha' := ha a rfl
          by_cases hlt : b + 1 < a
          · have e : omin (some a) (Option.map (· + 1) (some b)) = some (b + 1) := by simp [omin, hlt]
            rw [e] at h
            exact Ev.step (fun k => by rw [pre, if_pos (by simp [encS]), if_neg (by simp [encS]), if_pos (by simp only [encS]; omega)]) (ih (i + 1) (some (b + 1)) (by omega) (by omega) (fun n hn => by cases hn; omega) h)
          · have e : omin (some a) (Option.map (· + 1) (some b)) = some a := by simp [omin, hlt]
            rw [e] at h
            exact Ev.step (fun k => by rw [pre, if_pos (by simp [encS]), if_neg (by simp [encS]), if_neg (by simp only [encS]; omega)]) (ih (i + 1) (some a) (by omega) (by omega) ha h)
    · rw [if_neg hcv] at h
      refine Ev.step (fun k => ?_) (ih (i + 1) acc (by omega) (by omega) ha h)
      rw [spec_cnFew.l1, if_pos (by omega), if_pos (by omega), if_pos (by omega), rd_eq cs i hil, if_neg (by omega), w1]

set_option maxHeartbeats 1000000 in
theorem few1 (r : List Int) (d : Nat) : ∀ (i : Nat) (acc : Option Nat), cs.length - i = d → i ≤ cs.length → (∀ n, acc = some n → n ≤ A.length) →
    Ev (fun k => impl_fewStamps.l0 k cs (m : Int) (A.map (encP m) ++ encP m (best A A.length (cs.drop i) acc) :: B) (((A.length + 1 : Nat)) : Int)) r →
    Ev (fun k => impl_fewStamps.l1 k cs (m : Int) (A.map (encP m) ++ encP m acc :: B) (A.length : Int) cs (cs.length : Int) (i : Int)) r := by
  induction d with
  | zero =>
    intro i acc hd hi ha h
    rw [List.drop_of_length_le (by omega)] at h
    refine Ev.step (fun k => ?_) h
    rw [impl_fewStamps.l1, if_neg (by omega), w64 (by omega) (by omega)]
    rfl
  | succ d ih =>
    intro i acc hd hi ha h
    have hil : i < cs.length := by omega
    have hci := hc cs[i] (List.getElem_mem hil)
    have hlen : (A.map (encP m) ++ encP m acc :: B).length = m + 1 := by simp; omega
    rw [List.drop_eq_getElem_cons hil, best] at h
    have w1 : wrap64 ((i : Int) + 1) = ((i + 1 : Nat) : Int) := by rw [w64 (by omega) (by omega)]; rfl
    have hAl : (A.map (encP m)).length = A.length := by simp
    have hat : rd (A.map (encP m) ++ encP m acc :: B) (A.length : Int) = encP m acc := by rw [← hAl]; exact rd_app_at _ _ _
    have hset : ∀ y, (A.map (encP m) ++ encP m acc :: B).set (A.length : Int).toNat y = A.map (encP m) ++ y :: B := fun y => by
      have := set_at (A.map (encP m)) (encP m acc) y B
      rw [hAl] at this; exact this
    by_cases hcv : cs[i] ≤ (A.length : Int)
    · rw [if_pos hcv] at h
      have w2 : wrap64 ((A.length : Int) - cs[i]) = ((A.length - cs[i].toNat : Nat) : Int) := by rw [w64 (by omega) (by omega)]; omega
      have hget : rd (A.map (encP m) ++ encP m acc :: B) ((A.length - cs[i].toNat : Nat) : Int) = encP m (A.getD (A.length - cs[i].toNat) none) := by
        rw [rd_app_lt _ _ _ (by rw [hAl]; omega), getD_map _ _ none _ (by omega)]
      refine Ev.step (fun k => ?_) (ih (i + 1) (omin acc (Option.map (· + 1) (A.getD (A.length - cs[i].toNat) none))) (by omega) (by omega) (fun n hn => ?_) h)
      · rw [impl_fewStamps.l1, if_pos (by omega), if_pos (by omega), if_pos (by omega), rd_eq cs i hil, if_pos (by omega), if_pos (by omega), if_pos (by omega), w2, if_pos (by omega), if_pos (by omega), hget, hat, w1, hset]
        have e : mn (encP m acc) (wrap64 (encP m (A.getD (A.length - cs[i].toNat) none) + 1)) = encP m (omin acc (Option.map (· + 1) (A.getD (A.length - cs[i].toNat) none))) := by
          cases hg : A.getD (A.length - cs[i].toNat) none with
          | none =>
            rw [w64 (by simp [encP]; omega) (by simp [encP]; omega)]
            cases acc with
            | none => exact mn_ge (by simp only [encP]; omega)
            | some a => have := ha a rfl; exact mn_ge (by simp only [encP]; omega)
          | some b =>
            have hb := hA _ _ hg
            rw [w64 (by simp [encP]; omega) (by simp [encP]; omega)]
            cases acc with
            | none => exact mn_lt (by simp only [encP]; omega)
            | some a =>
              have := ha a rfl
              by_cases hlt : b + 1 < a
              · rw [mn_lt (by simp only [encP]; omega)]; simp [omin, hlt, encP]
              · rw [mn_ge (by simp only [encP]; omega)]; simp [omin, hlt, encP]
        rw [e]
      · cases hg : A.getD (A.length - cs[i].toNat) none with
        | none => rw [hg] at hn; cases acc with
          | none => simp [omin] at hn
          | some a => simp [omin] at hn; exact ha n (by rw [hn])
        | some b =>
          have hb := hA _ _ hg
          rw [hg] at hn; cases acc with
          | none => simp [omin] at hn; omega
          | some a =>
            have := ha a rfl
            simp [omin] at hn
            split at hn <;> omega
    · rw [if_neg hcv] at h
      refine Ev.step (fun k => ?_) (ih (i + 1) acc (by omega) (by omega) ha h)
      rw [impl_fewStamps.l1, if_pos (by omega), if_pos (by omega), if_pos (by omega), rd_eq cs i hil, if_neg (by omega), w1]
end

theorem cnFew0 (cs : List Int) (hc : ∀ x ∈ cs, 1 ≤ x ∧ x ≤ 1000) (hl : cs.length ≤ 35184372088832) (m : Nat) (hm : m ≤ 2000000) (d : Nat) : ∀ v : Nat, m - v = d → v ≤ m →
    Ev (fun k => spec_cnFew.l0 k cs (m : Int) ((fewT cs v).map encS ++ List.replicate (m - v) 0) ((v + 1 : Nat) : Int)) ((fewT cs m).map encS) := by
  induction d with
  | zero =>
    intro v hd hv
    have : v = m := by omega
    subst this
    refine Ev.one fun k => ?_
    rw [spec_cnFew.l0, if_neg (by omega)]
    simp
  | succ d ih =>
    intro v hd hv
    have hlen := fewT_length cs v
    have hml : ((fewT cs v).map encS).length = v + 1 := by simp [hlen]
    have h := cnFew1 cs hc hl m hm (fewT cs v) (List.replicate (m - (v + 1)) 0) (fun i n => fewT_le cs (fun x hx => (hc x hx).1) v i n) (by omega) (by simp [hlen]; omega) ((fewT cs m).map encS) cs.length 0 none (by omega) (by omega) (fun _ h => by cases h) (by
      have e : (fewT cs v).map encS ++ encS (best (fewT cs v) (fewT cs v).length (cs.drop 0) none) :: List.replicate (m - (v + 1)) 0 = (fewT cs (v + 1)).map encS ++ List.replicate (m - (v + 1)) 0 := by
        rw [fewT, hlen]; simp
      rw [e, hlen]
      exact ih (v + 1) (by omega) (by omega))
    refine Ev.step (fun k => ?_) h
    rw [spec_cnFew.l0, if_pos (by omega), if_pos (by omega), if_pos (by simp [hlen]; omega)]
    have e : ((fewT cs v).map encS ++ List.replicate (m - v) 0).set ((v + 1 : Nat) : Int).toNat (-1) = (fewT cs v).map encS ++ encS none :: List.replicate (m - (v + 1)) 0 := by
      rw [show m - v = (m - (v + 1)) + 1 by omega, List.replicate_succ, Int.toNat_natCast]
      have := set_at ((fewT cs v).map encS) 0 (-1) (List.replicate (m - (v + 1)) 0)
      rw [hml] at this; exact this
    rw [e, hlen]
    rfl
theorem few0 (cs : List Int) (hc : ∀ x ∈ cs, 1 ≤ x ∧ x ≤ 1000) (hl : cs.length ≤ 35184372088832) (m : Nat) (hm : m ≤ 2000000) (d : Nat) : ∀ v : Nat, m - v = d → v ≤ m →
    Ev (fun k => impl_fewStamps.l0 k cs (m : Int) ((fewT cs v).map (encP m) ++ List.replicate (m - v) 0) ((v + 1 : Nat) : Int)) ((fewT cs m).map (encP m)) := by
  induction d with
  | zero =>
    intro v hd hv
    have : v = m := by omega
    subst this
    refine Ev.one fun k => ?_
    rw [impl_fewStamps.l0, if_neg (by omega)]
    simp
  | succ d ih =>
    intro v hd hv
    have hlen := fewT_length cs v
    have hml : ((fewT cs v).map (encP m)).length = v + 1 := by simp [hlen]
    have h := few1 cs hc hl m hm (fewT cs v) (List.replicate (m - (v + 1)) 0) (fun i n => fewT_le cs (fun x hx => (hc x hx).1) v i n) (by omega) (by simp [hlen]; omega) ((fewT cs m).map (encP m)) cs.length 0 none (by omega) (by omega) (fun _ h => by cases h) (by
      have e : (fewT cs v).map (encP m) ++ encP m (best (fewT cs v) (fewT cs v).length (cs.drop 0) none) :: List.replicate (m - (v + 1)) 0 = (fewT cs (v + 1)).map (encP m) ++ List.replicate (m - (v + 1)) 0 := by
        rw [fewT, hlen]; simp
      rw [e, hlen]
      exact ih (v + 1) (by omega) (by omega))
    refine Ev.step (fun k => ?_) h
    rw [impl_fewStamps.l0, if_pos (by omega), if_pos (by omega), if_pos (by simp [hlen]; omega)]
    have e : ((fewT cs v).map (encP m) ++ List.replicate (m - v) 0).set ((v + 1 : Nat) : Int).toNat (wrap64 ((m : Int) + 1)) = (fewT cs v).map (encP m) ++ encP m none :: List.replicate (m - (v + 1)) 0 := by
      rw [show m - v = (m - (v + 1)) + 1 by omega, List.replicate_succ, Int.toNat_natCast, w64 (by omega) (by omega)]
      have := set_at ((fewT cs v).map (encP m)) 0 ((m : Int) + 1) (List.replicate (m - (v + 1)) 0)
      rw [hml] at this; exact this
    rw [e, hlen]
    rfl
theorem cnFew_ev (cs : List Int) (hc : ∀ x ∈ cs, 1 ≤ x ∧ x ≤ 1000) (hl : cs.length ≤ 35184372088832) (m : Nat) (hm : m ≤ 2000000) : Ev (fun k => spec_cnFew.f k cs (m : Int)) ((fewT cs m).map encS) := by
  unfold spec_cnFew.f
  have e : wrap64 ((m : Int) + 1) = ((m + 1 : Nat) : Int) := by rw [w64 (by omega) (by omega)]; rfl
  refine Ev.if_pos' (by omega) (Ev.if_pos' (by omega) ?_)
  rw [e, Int.toNat_natCast, List.replicate_succ]
  exact cnFew0 cs hc hl m hm m 0 (by omega) (by omega)
theorem fewStamps_ev (cs : List Int) (hc : ∀ x ∈ cs, 1 ≤ x ∧ x ≤ 1000) (hl : cs.length ≤ 35184372088832) (m : Nat) (hm : m ≤ 2000000) : Ev (fun k => impl_fewStamps.f k cs (m : Int)) ((fewT cs m).map (encP m)) := by
  unfold impl_fewStamps.f
  have e : wrap64 ((m : Int) + 1) = ((m + 1 : Nat) : Int) := by rw [w64 (by omega) (by omega)]; rfl
  refine Ev.if_pos' (by omega) (Ev.if_pos' (by omega) ?_)
  rw [e, Int.toNat_natCast, List.replicate_succ]
  exact few0 cs hc hl m hm m 0 (by omega) (by omega)
theorem tab_rd (f : Option Nat → Int) (cs : List Int) (m v : Nat) (h : v ≤ m) : rd ((fewT cs m).map f) (v : Int) = f (few cs v) := by
  rw [rd_nat, getD_map f _ none v (by rw [fewT_length]; omega), fewT_get cs m v h]

end Go.Proofs.Ytohghfeomocnlaa.Pure
