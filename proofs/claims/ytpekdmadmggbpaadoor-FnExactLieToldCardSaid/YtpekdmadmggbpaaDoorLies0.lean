/- Plain lemmas: answers with lies: how many, the first, and the numbers that fit, by the program and by the reference. -/
import Derived.Test.YtpekdmadmggbpaaDoorAsk0
import Derived.Test.YtpekdmadmggbpaaDoorGx13
import Derived.Test.YtpekdmadmggbpaaDoorGx14
namespace Go.Proofs.YtpekdmadmggbpaaDoor.Pure
open Go.RowKit Go.Proofs.YtpekdmadmggbpaaDoor.G Go.Proofs.YtpekdmadmggbpaaDoorW.PrintWords Go.Proofs.YtpekdmadmggbpaaDoorW.PrintLast

/-- At how many places two texts differ. -/
def dN : List UInt8 → List UInt8 → Int
  | [], _ => 0
  | _ :: _, [] => 0
  | x :: s, y :: t => if x = y then dN s t else dN s t + 1
/-- The first place at which they differ; -1: none. -/
def dF : List UInt8 → List UInt8 → Int → Int
  | [], _, _ => -1
  | _ :: _, [], _ => -1
  | x :: s, y :: t, i => if x = y then dF s t (i + 1) else i
theorem dN_nonneg : ∀ s t : List UInt8, 0 ≤ dN s t
  | [], _ => Int.le_refl _
  | _ :: _, [] => Int.le_refl _
  | x :: s, y :: t => by
    unfold dN
    have := dN_nonneg s t
    split <;> omega
theorem dN_le : ∀ s t : List UInt8, dN s t ≤ s.length
  | [], _ => Int.le_refl _
  | _ :: _, [] => by unfold dN; omega
  | x :: s, y :: t => by
    unfold dN
    have := dN_le s t
    rw [List.length_cons]
    split <;> omega
theorem apart_fst : ∀ (s t : List UInt8) (i n last : Int), (spec_caApart.apartL s t i n last).1 = n + dN s t
  | [], _, _, _, _ => by unfold spec_caApart.apartL dN; simp
  | _ :: _, [], _, _, _ => by unfold spec_caApart.apartL dN; simp
  | x :: s, y :: t, i, n, last => by
    unfold spec_caApart.apartL dN
    by_cases h : x = y
    · rw [if_pos h, if_pos h]; exact apart_fst s t _ _ _
    · rw [if_neg h, if_neg h, apart_fst s t]; omega
theorem apart_none : ∀ (s t : List UInt8) (i n last : Int), dN s t ≤ 0 → (spec_caApart.apartL s t i n last).2 = last
  | [], _, _, _, _ => fun _ => by unfold spec_caApart.apartL; rfl
  | _ :: _, [], _, _, _ => fun _ => by unfold spec_caApart.apartL; rfl
  | x :: s, y :: t, i, n, last => fun hd => by
    unfold spec_caApart.apartL
    unfold dN at hd
    by_cases h : x = y
    · rw [if_pos h] at hd ⊢; exact apart_none s t _ _ _ hd
    · rw [if_neg h] at hd
      have := dN_nonneg s t
      omega
theorem apart_snd : ∀ (s t : List UInt8) (i n : Int), dN s t ≤ 1 → (spec_caApart.apartL s t i n (-1)).2 = dF s t i
  | [], _, _, _ => fun _ => by unfold spec_caApart.apartL dF; rfl
  | _ :: _, [], _, _ => fun _ => by unfold spec_caApart.apartL dF; rfl
  | x :: s, y :: t, i, n => fun hd => by
    unfold spec_caApart.apartL dF
    unfold dN at hd
    by_cases h : x = y
    · rw [if_pos h] at hd; rw [if_pos h, if_pos h]; exact apart_snd s t _ _ hd
    · rw [if_neg h] at hd; rw [if_neg h, if_neg h]; exact apart_none s t _ _ _ (by omega)
theorem size_list' (b : ByteArray) : b.data.toList.length = b.size := by
  rw [Array.length_toList]; rfl
theorem bt_list' (b : ByteArray) (i : Nat) (h : i < b.size) : bt b (i : Int) = ((b.data.toList[i]'(by rw [size_list']; exact h)).toNat : Int) := by
  unfold bt
  rw [dif_pos (by rw [Int.toNat_natCast]; exact h)]
  simp [ByteArray.getElem_eq_getElem_data]
theorem bt_eq_iff (a b : ByteArray) (i : Nat) (ha : i < a.size) (hb : i < b.size) : bt a (i : Int) = bt b (i : Int) ↔ a.data.toList[i]'(by rw [size_list']; exact ha) = b.data.toList[i]'(by rw [size_list']; exact hb) := by
  rw [bt_list' a i ha, bt_list' b i hb]
  exact ⟨fun h => UInt8.toNat_inj.1 (by omega), fun h => by rw [h]⟩
theorem differ_loop (a b : ByteArray) (hab : a.size ≤ b.size) (hs : a.size ≤ 1000000) (d : Nat) : ∀ (i : Nat) (n : Int), a.size - i = d → i ≤ a.size → 0 ≤ n → n ≤ i →
    Ev (fun k => impl_differ.l0 k a b n (a.size : Int) (i : Int)) (n + dN (a.data.toList.drop i) (b.data.toList.drop i)) := by
  induction d with
  | zero =>
    intro i n hd hi h0 h1
    rw [List.drop_of_length_le (by rw [size_list']; omega)]
    refine Ev.one fun k => ?_
    rw [impl_differ.l0, if_neg (by omega)]
    unfold dN
    rw [Int.add_zero]
  | succ d ih =>
    intro i n hd hi h0 h1
    have hil : i < a.size := by omega
    have hw : wrap64 ((i : Int) + 1) = ((i + 1 : Nat) : Int) := w64 (by omega) (by omega)
    have hwn : wrap64 (n + 1) = n + 1 := w64 (by omega) (by omega)
    rw [List.drop_eq_getElem_cons (by rw [size_list']; exact hil), List.drop_eq_getElem_cons (l := b.data.toList) (by rw [size_list']; omega), dN]
    have hb := bt_eq_iff a b i hil (by omega)
    by_cases h : bt a (i : Int) = bt b (i : Int)
    · rw [if_pos (hb.1 h)]
      refine Ev.step (fun k => ?_) (ih (i + 1) n (by omega) (by omega) h0 (by omega))
      rw [impl_differ.l0, if_pos (by omega), if_pos (by omega), if_pos (by omega), if_pos (by omega), if_pos h, hw]
    · rw [if_neg (fun e => h (hb.2 e)), show ∀ z : Int, n + (z + 1) = n + 1 + z by intro z; omega]
      refine Ev.step (fun k => ?_) (ih (i + 1) (n + 1) (by omega) (by omega) (by omega) (by omega))
      rw [impl_differ.l0, if_pos (by omega), if_pos (by omega), if_pos (by omega), if_pos (by omega), if_neg h, hw, hwn]
theorem differ_ev (a b : ByteArray) (hab : a.size ≤ b.size) (hs : a.size ≤ 1000000) : Ev (fun k => impl_differ.f k a b) (dN a.data.toList b.data.toList) := by
  unfold impl_differ.f
  have := differ_loop a b hab hs a.size 0 0 (by omega) (by omega) (by omega) (by omega)
  rwa [Int.zero_add] at this
theorem ansT_ascii (l : List (List Int)) (a : Int) : ((ansT l a).data.toList.all fun b => decide (b.toNat < 128)) = true := by
  rw [List.all_eq_true]
  intro u hu
  have := List.all_eq_true.1 (ansT_yn l a) u hu
  unfold spec_caAsked.isYn at this
  rw [Bool.or_eq_true, decide_eq_true_eq, decide_eq_true_eq] at this
  rw [decide_eq_true_eq]
  omega
theorem apart_eq (l : List (List Int)) (h12 : l.length ≤ 12) (a : Int) (b : ByteArray) (hb : l.length ≤ b.size) : spec_caApart.f (ansT l a) b = some (spec_caApart.apartL (ansT l a).data.toList b.data.toList 0 0 (-1)) := by
  unfold spec_caApart.f
  rw [if_pos ⟨by rw [ansT_size]; exact hb, by rw [ansT_size]; omega, ansT_ascii l a⟩]
/-- Whether a number has at most so many lies. -/
def fits (l : List (List Int)) (b : ByteArray) (lies x : Int) : Bool := decide (dN (ansT l x).data.toList b.data.toList ≤ lies)
theorem caWith_loop (n : Int) (l : List (List Int)) (b : ByteArray) (lies : Int) (hc : cardsB n l = true) (hr : ∀ x ∈ l, x.length ≤ 1048576) (hb : l.length ≤ b.size) (d : Nat) : ∀ x : Nat, n.toNat - x = d → (x : Int) ≤ n →
    Ev (fun k => spec_caWith.l0 k b lies (impl_cardOf.card (fits l b lies) x) (x : Int) n l) (impl_cardOf.card (fits l b lies) n.toNat) := by
  obtain ⟨hn, h12, _⟩ := cards_facts hc
  induction d with
  | zero =>
    intro x hd hx
    have : x = n.toNat := by omega
    subst this
    exact Ev.one fun k => by rw [spec_caWith.l0, if_neg (by omega)]
  | succ d ih =>
    intro x hd hx
    have h := ih (x + 1) (by omega) (by omega)
    have hw : wrap64 ((x : Int) + 1) = ((x + 1 : Nat) : Int) := w64 (by omega) (by omega)
    have hl := impl_cardOf.card_le (fits l b lies) x
    rw [impl_cardOf.card_step] at h
    have A := caAnswers_ev n l h12 hr (x : Int)
    have P := apart_eq l h12 (x : Int) b hb
    have F : (spec_caApart.apartL (ansT l (x : Int)).data.toList b.data.toList 0 0 (-1)).1 = dN (ansT l (x : Int)).data.toList b.data.toList := by rw [apart_fst, Int.zero_add]
    refine Ev.step (f := fun k => (spec_caAnswers.f k n l (x : Int)).bind fun t => (spec_caApart.f t b).bind fun bt => if bt.1 ≤ lies then (if (impl_cardOf.card (fits l b lies) x).length < 17592186044416 then spec_caWith.l0 k b lies (impl_cardOf.card (fits l b lies) x ++ [(x : Int)]) ((x + 1 : Nat) : Int) n l else none) else spec_caWith.l0 k b lies (impl_cardOf.card (fits l b lies) x) ((x + 1 : Nat) : Int) n l) (fun k => ?_) (Ev.bind A (Ev.const_bind P ?_))
    · rw [spec_caWith.l0, if_pos (by omega), hw]
    · cases hf : fits l b lies (x : Int) with
      | true =>
        rw [if_pos hf] at h
        exact Ev.if_pos' (by rw [F]; exact of_decide_eq_true hf) (Ev.if_pos' (by omega) h)
      | false =>
        rw [if_neg (by rw [hf]; simp)] at h
        exact Ev.if_neg' (by rw [F]; exact of_decide_eq_false hf) h
theorem caWith_ev (n : Int) (l : List (List Int)) (b : ByteArray) (lies : Int) (hc : cardsB n l = true) (hr : ∀ x ∈ l, x.length ≤ 1048576) (hb : l.length ≤ b.size) :
    Ev (fun k => spec_caWith.f k n l b lies) (impl_cardOf.card (fits l b lies) n.toNat) := by
  have hn := (cards_facts hc).1
  unfold spec_caWith.f
  exact caWith_loop n l b lies hc hr hb n.toNat 0 (by omega) (by omega)
theorem many_ev {β : Type} (g : Nat → Int → Option β) (v : Int → β) (m : Nat) (h : ∀ i : Nat, Ev (fun k => g k (i : Int)) (v (i : Int))) : ∃ K, ∀ k, K ≤ k → ∀ i : Nat, i < m → g k (i : Int) = some (v (i : Int)) := by
  induction m with
  | zero => exact ⟨0, fun _ _ i hi => by omega⟩
  | succ m ih =>
    obtain ⟨K1, h1⟩ := ih
    obtain ⟨K2, h2⟩ := h m
    refine ⟨K1 + K2, fun k hk i hi => ?_⟩
    by_cases e : i = m
    · subst e; exact h2 k (by omega)
    · exact h1 k (by omega) i (by omega)
theorem Lies_ev (n : Int) (l : List (List Int)) (b : ByteArray) (lies : Int) (hq : asksB n l b = true) (hlies : 0 ≤ lies ∧ lies ≤ 12) (hl : l.length ≤ 1048576) (hr : ∀ x ∈ l, x.length ≤ 1048576) :
    Ev (fun k => impl_NumbersWithLies.f k n l b lies) (impl_cardOf.card (fits l b lies) n.toNat, true) := by
  obtain ⟨hc, hs, _⟩ := asks_facts hq
  obtain ⟨hn, h12, hx⟩ := cards_facts hc
  unfold impl_NumbersWithLies.f
  refine Ev.bind (areAnswers_ev n l hl hr b) (Ev.if_pos' hq (Ev.const_bind (within_eq _ _ _) (Ev.if_pos' (decide_eq_true hlies) ?_)))
  obtain ⟨K, hK⟩ := many_ev (fun k x => impl_NumbersWithLies.g k n l b x) (fun x => dN (ansT l x).data.toList b.data.toList) n.toNat (fun i => by
    unfold impl_NumbersWithLies.g
    exact Ev.bind (answers_ev n l h12 hr (fun x hx' => (hx x hx').1) (i : Int)) (differ_ev _ _ (by rw [ansT_size]; omega) (by rw [ansT_size]; omega)))
  refine ⟨K, fun k hk => ?_⟩
  have h1 := hK k hk
  show (if _ then _ else _) = _
  rw [if_pos ⟨by omega, by omega, List.all_eq_true.2 fun i hi => by have := h1 i (List.mem_range.1 hi); simp only [this]; rfl⟩]
  congr 2
  unfold impl_cardOf.card
  refine List.filter_congr fun x hx' => ?_
  obtain ⟨i, hi, rfl⟩ := List.mem_map.1 hx'
  have := h1 i (List.mem_range.1 hi)
  simp only [this]
  rfl
theorem Lies_no (n : Int) (l : List (List Int)) (b : ByteArray) (lies : Int) (hq : asksB n l b = false) (hl : l.length ≤ 1048576) (hr : ∀ x ∈ l, x.length ≤ 1048576) :
    Ev (fun k => impl_NumbersWithLies.f k n l b lies) ([], false) := by
  unfold impl_NumbersWithLies.f
  exact Ev.bind (areAnswers_ev n l hl hr b) (Ev.if_neg' (by simp [hq]) (Ev.now _))
theorem Lies_off (n : Int) (l : List (List Int)) (b : ByteArray) (lies : Int) (hq : asksB n l b = true) (hlies : ¬ (0 ≤ lies ∧ lies ≤ 12)) (hl : l.length ≤ 1048576) (hr : ∀ x ∈ l, x.length ≤ 1048576) :
    Ev (fun k => impl_NumbersWithLies.f k n l b lies) ([], false) := by
  unfold impl_NumbersWithLies.f
  exact Ev.bind (areAnswers_ev n l hl hr b) (Ev.if_pos' hq (Ev.const_bind (within_eq _ _ _) (Ev.if_neg' (by rw [decide_eq_false hlies]; simp) (Ev.now _))))

end Go.Proofs.YtpekdmadmggbpaaDoor.Pure
