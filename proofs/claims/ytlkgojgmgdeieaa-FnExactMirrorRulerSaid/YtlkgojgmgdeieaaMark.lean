/- Plain lemmas: a list that is marked with 1, 2, .. holds just these marks. -/
import Derived.Test.YtlkgojgmgdeieaaBase
import Derived.Test.YtlkgojgmgdeieaaGx7
namespace Go.Proofs.Ytlkgojgmgdeieaa.Pure
open Go.RowKit Go.Proofs.Ytlkgojgmgdeieaa.G Go.Proofs.YtlkgojgmgdeieaaW.PrintWords Go.Proofs.YtlkgojgmgdeieaaW.PrintLast

/-- s, s + 1, .., n numbers. -/
def upfrom (s : Int) : Nat → List Int
  | 0 => []
  | n + 1 => s :: upfrom (s + 1) n
theorem upfrom_length (n : Nat) : ∀ s, (upfrom s n).length = n := by
  induction n with
  | zero => intro s; rfl
  | succ n ih => intro s; simp [upfrom, ih]
theorem upfrom_get (n : Nat) : ∀ (s : Int) (i : Nat), i < n → (upfrom s n).getD i 0 = s + i := by
  induction n with
  | zero => intro s i h; omega
  | succ n ih =>
    intro s i h
    cases i with
    | zero => simp [upfrom]
    | succ i =>
      have := ih (s + 1) i (by omega)
      simp only [upfrom, List.getD_cons_succ, this]
      omega
theorem mark_loop (n : Nat) : ∀ (A B : List Int) (s : Int), B.length = n → A.length + n ≤ 35184372088832 → 0 ≤ s → s + n ≤ 70368744177664 →
    Ev (fun k => laws_markIntS.l0 k (A ++ B) s (A.length : Int)) (s + n, A ++ upfrom s n) := by
  induction n with
  | zero =>
    intro A B s hB hn h0 h1
    obtain rfl := List.eq_nil_of_length_eq_zero hB
    refine Ev.one fun k => ?_
    rw [laws_markIntS.l0, if_neg (by simp)]
    simp [upfrom]
  | succ n ih =>
    intro A B s hB hn h0 h1
    cases B with
    | nil => simp at hB
    | cons b B =>
      have h := ih (A ++ [s]) B (s + 1) (by simpa using hB) (by simp; omega) (by omega) (by omega)
      refine Ev.step (f := fun k => laws_markIntS.l0 k ((A ++ [s]) ++ B) (s + 1) ((A ++ [s]).length : Int)) (fun k => ?_) ?_
      · rw [laws_markIntS.l0, if_pos (by simp; omega), if_pos (by omega), w64 (by omega) (by omega), w64 (by omega) (by omega)]
        simp
      · have e : s + 1 + (n : Int) = s + ((n + 1 : Nat) : Int) := by omega
        rw [e] at h
        simpa [upfrom] using h
theorem held_loop (n : Nat) (L : List Int) (d : Nat) : ∀ (i : Nat) (s : Int), n - i = d → i ≤ n → L.length = n → n ≤ 35184372088832 → 0 ≤ s → s + d ≤ 70368744177664 → (∀ j, i ≤ j → j < n → L.getD j 0 = s + ((j - i : Nat) : Int)) →
    Ev (fun k => laws_heldIntS.l0 k L s (i : Int)) (s + d) := by
  induction d with
  | zero =>
    intro i s hd hi hL hn h0 h1 hv
    refine Ev.one fun k => ?_
    rw [laws_heldIntS.l0, if_neg (by omega)]
    simp
  | succ d ih =>
    intro i s hd hi hL hn h0 h1 hv
    have h := ih (i + 1) (s + 1) (by omega) (by omega) hL hn (by omega) (by omega) (fun j hj hj' => by rw [hv j (by omega) hj']; omega)
    have e : s + 1 + (d : Int) = s + ((d + 1 : Nat) : Int) := by omega
    rw [e] at h
    refine Ev.step (fun k => ?_) h
    have hg := hv i (by omega) (by omega)
    rw [laws_heldIntS.l0, if_pos (by omega), if_pos (by omega), rd_nat, hg, if_pos (by omega), w64 (by omega) (by omega), w64 (by omega) (by omega)]
    rfl
theorem mark_ev (l : List Int) (hl : l.length ≤ 35184372088831) : Ev (fun k => laws_markIntS.f k l 1) (1 + (l.length : Int), upfrom 1 l.length) := by
  unfold laws_markIntS.f
  simpa using mark_loop l.length [] l 1 rfl (by simp; omega) (by omega) (by omega)
theorem held_ev (n : Nat) (hn : n ≤ 35184372088831) : Ev (fun k => laws_heldIntS.f k (upfrom 1 n) 1) (1 + (n : Int)) := by
  unfold laws_heldIntS.f
  exact held_loop n (upfrom 1 n) n 0 1 (by omega) (by omega) (upfrom_length n 1) (by omega) (by omega) (by omega) (fun j _ hj => by rw [upfrom_get n 1 j hj]; simp)

end Go.Proofs.Ytlkgojgmgdeieaa.Pure
