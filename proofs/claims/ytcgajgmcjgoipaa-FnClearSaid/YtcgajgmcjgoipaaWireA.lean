/- What the program's and the reference's functions on fates answer, as plain functions of lists. -/
import Derived.Test.YtcgajgmcjgoipaaPAllx1
import Derived.Test.YtcgajgmcjgoipaaPAllx2
import Derived.Test.YtcgajgmcjgoipaaPAllx3
import Derived.Test.YtcgajgmcjgoipaaPAllx4
import Derived.Test.YtcgajgmcjgoipaaPAllx6
import Derived.Test.YtcgajgmcjgoipaaPAllx8
import Derived.Test.YtcgajgmcjgoipaaLibI
namespace Go.Proofs.Ytcgajgmcjgoipaa.Pure
open Go.RowKit Go.Proofs.Ytcgajgmcjgoipaa.PAll Go.Proofs.YtcgajgmcjgoipaaW.PrintWords Go.Proofs.YtcgajgmcjgoipaaW.PrintLast Go.Proofs.YtcgajgmcjgoipaaW.PrintMore Go.Proofs.Ytcgajgmcjgoipaa.Base

theorem l1In_eq (a b c : Int) : spec_l1In.f a b c = some (decide (b ≤ a ∧ a ≤ c)) := by
  unfold spec_l1In.f
  by_cases h : a ≥ b
  · rw [if_pos h]; simp [show b ≤ a from h]
  · rw [if_neg h]; simp; omega
theorem within_eq (a b c : Int) : impl_within.f a b c = some (decide (b ≤ a ∧ a ≤ c)) := by
  unfold impl_within.f
  by_cases h : b ≤ a
  · rw [if_pos h]; simp [h]
  · rw [if_neg h]; simp [h]
/-- Fates. -/
def FV (l : List Int) : Bool := decide (l.length ≤ 200) && l.all fun x => decide (0 ≤ x ∧ x ≤ 4)
theorem implFV (l : List Int) : impl_FatesValid.f l = some (FV l) := rfl
theorem FV_len {l : List Int} (h : FV l = true) : l.length ≤ 200 := by
  unfold FV at h
  exact of_decide_eq_true (Bool.and_eq_true_iff.1 h).1
theorem FV_range {l : List Int} (h : FV l = true) (x : Int) (hx : x ∈ l) : 0 ≤ x ∧ x ≤ 4 := by
  unfold FV at h
  exact of_decide_eq_true (List.all_eq_true.1 (Bool.and_eq_true_iff.1 h).2 x hx)
theorem all_drop {p : Int → Bool} (l : List Int) (i : Nat) (h : ∀ j, j < i → p (rd l (j : Int)) = true) (hi : i ≤ l.length) : l.all p = (l.drop i).all p := by
  induction i with
  | zero => simp
  | succ i ih =>
    rw [ih (fun j hj => h j (by omega)) (by omega), List.drop_eq_getElem_cons (by omega), List.all_cons]
    have := h i (by omega)
    rw [rd_get l i (by omega)] at this
    rw [this, Bool.true_and]
theorem specFV_loop (l : List Int) (hl : l.length ≤ 1099511627776) (d : Nat) : ∀ i : Nat, i + d = l.length → (∀ j, j < i → decide (0 ≤ rd l (j : Int) ∧ rd l (j : Int) ≤ 4) = true) → Ev (fun k => spec_FatesValid.l0 k l (i : Int)) (FV l) := by
  induction d with
  | zero =>
    intro i hi h
    refine Ev.succ ?_
    simp only [spec_FatesValid.l0]
    refine Ev.neg (by omega) (Ev.eq (Ev.now _) ?_)
    unfold FV
    have e : (l.all fun x => decide (0 ≤ x ∧ x ≤ 4)) = true := by
      rw [all_drop (p := fun x => decide (0 ≤ x ∧ x ≤ 4)) l i h (by omega), List.drop_of_length_le (by omega)]
      rfl
    rw [e, Bool.and_true]
    exact decide_eq_decide.2 (by omega)
  | succ d ih =>
    intro i hi h
    refine Ev.succ ?_
    simp only [spec_FatesValid.l0]
    rw [succ_i i (by omega)]
    refine Ev.pos (by omega) (Ev.pos (by omega) (Ev.bindc (l1In_eq _ _ _) ?_))
    by_cases hx : 0 ≤ rd l (i : Int) ∧ rd l (i : Int) ≤ 4
    · refine Ev.pos (decide_eq_true hx) (ih (i + 1) (by omega) (fun j hj => ?_))
      by_cases e : j = i
      · subst e
        exact decide_eq_true hx
      · exact h j (by omega)
    · refine Ev.neg (by simpa using hx) (Ev.eq (Ev.now _) ?_)
      unfold FV
      have e : (l.all fun x => decide (0 ≤ x ∧ x ≤ 4)) = false := by
        rw [all_drop (p := fun x => decide (0 ≤ x ∧ x ≤ 4)) l i h (by omega), List.drop_eq_getElem_cons (by omega), List.all_cons, ← rd_get l i (by omega), decide_eq_false hx, Bool.false_and]
      rw [e, Bool.and_false]
theorem specFV (l : List Int) (hl : l.length ≤ 1099511627776) : Ev (fun k => spec_FatesValid.f k l) (FV l) := by
  unfold spec_FatesValid.f
  exact specFV_loop l hl l.length 0 (by omega) (fun j hj => absurd hj (Nat.not_lt_zero _))

/-- The fate of a message. -/
def fateI (l : List Int) (i : Int) : Int := if i < (l.length : Int) then rd l i else 0
theorem implFate (l : List Int) (i : Int) (hi : 0 ≤ i) : impl_fate.f l i = some (fateI l i) := by
  unfold impl_fate.f fateI
  by_cases h : i < (l.length : Int)
  · rw [if_pos h, if_pos h, if_pos hi]
  · rw [if_neg h, if_neg h]
theorem specFate (l : List Int) (i : Int) (hi : 0 ≤ i) : spec_l4Fate.f l i = some (fateI l i) := by
  unfold spec_l4Fate.f fateI
  by_cases h : i < (l.length : Int)
  · rw [if_pos h, if_pos h, if_pos hi]
  · rw [if_neg h, if_neg h]
def fateOfI (l : List Int) (i : Int) : Int := if FV l = true ∧ 0 ≤ i then fateI l i else -1
theorem implFateOf (l : List Int) (i : Int) : impl_FateOf.f l i = some (fateOfI l i) := by
  unfold impl_FateOf.f fateOfI
  rw [implFV, Option.bind_some]
  by_cases h : FV l = true
  · rw [if_pos h]
    by_cases h2 : i < 0
    · rw [if_pos h2, if_neg (by omega)]
    · rw [if_neg h2, implFate l i (by omega), Option.bind_some, if_pos ⟨h, by omega⟩]
  · rw [if_neg h, if_neg (fun e => h e.1)]
/-! ### IsClear -/
def clearI (l : List Int) : Bool := FV l && l.all fun x => decide (x = 0)
theorem implClear (l : List Int) : impl_IsClear.f l = some (clearI l) := by
  unfold impl_IsClear.f clearI
  rw [implFV, Option.bind_some]
theorem specClear_loop (l : List Int) (hl : l.length ≤ 1099511627776) (d : Nat) : ∀ i : Nat, i + d = l.length → (∀ j, j < i → decide (rd l (j : Int) = 0) = true) → Ev (fun k => spec_IsClear.l0 k l (i : Int)) (clearI l) := by
  induction d with
  | zero =>
    intro i hi h
    refine Ev.succ ?_
    simp only [spec_IsClear.l0]
    refine Ev.neg (by omega) (Ev.bind (specFV l hl) (Ev.eq (Ev.now _) ?_))
    unfold clearI
    have e : (l.all fun x => decide (x = 0)) = true := by
      rw [all_drop (p := fun x => decide (x = 0)) l i h (by omega), List.drop_of_length_le (by omega)]
      rfl
    rw [e, Bool.and_true]
  | succ d ih =>
    intro i hi h
    refine Ev.succ ?_
    simp only [spec_IsClear.l0]
    rw [succ_i i (by omega)]
    refine Ev.pos (by omega) (Ev.pos (by omega) ?_)
    by_cases hx : rd l (i : Int) = 0
    · refine Ev.pos hx (ih (i + 1) (by omega) (fun j hj => ?_))
      by_cases e : j = i
      · subst e
        exact decide_eq_true hx
      · exact h j (by omega)
    · refine Ev.neg hx (Ev.eq (Ev.now _) ?_)
      unfold clearI
      have e : (l.all fun x => decide (x = 0)) = false := by
        rw [all_drop (p := fun x => decide (x = 0)) l i h (by omega), List.drop_eq_getElem_cons (by omega), List.all_cons, ← rd_get l i (by omega), decide_eq_false hx, Bool.false_and]
      rw [e, Bool.and_false]
theorem specClear (l : List Int) (hl : l.length ≤ 1099511627776) : Ev (fun k => spec_IsClear.f k l) (clearI l) := by
  unfold spec_IsClear.f
  exact specClear_loop l hl l.length 0 (by omega) (fun j hj => absurd hj (Nat.not_lt_zero _))

def sendI (l : List Int) (n : Int) : Bool := FV l && decide (0 ≤ n ∧ n ≤ 60)
theorem implSend (l : List Int) (n : Int) : impl_canSend.f l n = some (sendI l n) := by
  unfold impl_canSend.f sendI
  rw [implFV, Option.bind_some]
  by_cases h : FV l = true
  · rw [if_pos h, within_eq, Option.bind_some, h, Bool.true_and]
  · rw [if_neg h, Bool.eq_false_iff.2 h, Bool.false_and]
/-! ### The draws of fates -/
theorem fates_loop (s : List Int) (hs : Bytes s) (hl : s.length ≤ 2000) (bad : Int) (hbad : 1 ≤ bad ∧ bad ≤ 8) (d : Nat) : ∀ (x : List Int) (p : Int), x.length + d ≤ 30 → 0 ≤ p → p + 2 * d ≤ 900000000 →
    ∃ b q, b.length ≤ 30 ∧ p ≤ q ∧ q ≤ p + 2 * d ∧ Ev (fun k => spec_l4Fates.l0 k x bad (d : Int) s p) (b, q) := by
  induction d with
  | zero =>
    intro x p h1 h2 h3
    refine ⟨x, p, by omega, by omega, by omega, Ev.succ ?_⟩
    simp only [spec_l4Fates.l0]
    exact Ev.neg (by omega) (Ev.now _)
  | succ d ih =>
    intro x p h1 h2 h3
    have e1 : wrap64 (((d + 1 : Nat) : Int) - 1) = (d : Int) := by rw [w64 (by omega) (by omega)]; omega
    obtain ⟨y, hy0, hy1, hy⟩ := pick_ev s p bad hs hl (by omega) (by omega)
    by_cases hz : y = 0
    · obtain ⟨v, hv0, hv1, hv⟩ := pick_ev s (p + 1) 5 hs hl (by omega) (by omega)
      obtain ⟨b, q, g1, g2, g3, g4⟩ := ih (x ++ [v]) (p + 1 + 1) (by simp; omega) (by omega) (by omega)
      refine ⟨b, q, g1, by omega, by omega, Ev.succ ?_⟩
      simp only [spec_l4Fates.l0]
      rw [e1]
      exact Ev.pos (by omega) (Ev.bind hy (Ev.pos hz (Ev.bind hv (Ev.pos (by omega) g4))))
    · obtain ⟨b, q, g1, g2, g3, g4⟩ := ih (x ++ [0]) (p + 1) (by simp; omega) (by omega) (by omega)
      refine ⟨b, q, g1, by omega, by omega, Ev.succ ?_⟩
      simp only [spec_l4Fates.l0]
      rw [e1]
      exact Ev.pos (by omega) (Ev.bind hy (Ev.neg hz (Ev.pos (by omega) g4)))
theorem fates_ev (s : List Int) (p : Int) (hs : Bytes s) (hl : s.length ≤ 2000) (hp : 0 ≤ p ∧ p ≤ 800000000) : ∃ b q, b.length ≤ 30 ∧ p ≤ q ∧ q ≤ p + 100 ∧ Ev (fun k => spec_l4Fates.f k s p) (b, q) := by
  obtain ⟨x, hx0, hx⟩ := num_ev s p [2, 1, 3, 8] hs hl (by omega) (by simp) (by simp)
  obtain ⟨y, hy0, hy⟩ := num_ev s (p + 1) [6, 0, 12, 3, 30] hs hl (by omega) (by simp) (by simp)
  have hxb : 1 ≤ x ∧ x ≤ 8 := by simp at hx0; omega
  have hyb : 0 ≤ y ∧ y ≤ 30 := by simp at hy0; omega
  obtain ⟨n, rfl⟩ := Int.eq_ofNat_of_zero_le hyb.1
  obtain ⟨b, q, g1, g2, g3, g4⟩ := fates_loop s hs hl x hxb n [] (p + 1 + 1) (by simp; omega) (by omega) (by omega)
  unfold spec_l4Fates.f
  exact ⟨b, q, g1, by omega, by omega, Ev.bind hx (Ev.bind hy g4)⟩
theorem bent_ev (s : List Int) (p : Int) (hs : Bytes s) (hl : s.length ≤ 2000) (hp : 0 ≤ p ∧ p ≤ 700000000) : ∃ b q, b.length ≤ 201 ∧ p ≤ q ∧ q ≤ p + 200 ∧ Ev (fun k => spec_l4Bent.f k s p) (b, q) := by
  obtain ⟨b, q, h1, h2, h3, h4⟩ := fates_ev s p hs hl (by omega)
  obtain ⟨y, hy0, hy1, hy⟩ := pick_ev s q 40 hs hl (by omega) (by omega)
  unfold spec_l4Bent.f
  by_cases hz : y = 0
  · obtain ⟨v, hv0, hv⟩ := num_ev s (q + 1) [5, -1] hs hl (by omega) (by simp) (by simp)
    exact ⟨b ++ [v], q + 1 + 1, by simp; omega, by omega, by omega, Ev.bind h4 (Ev.bind hy (Ev.pos hz (Ev.bind hv (Ev.pos (by show b.length < 17592186044416; omega) (Ev.now _)))))⟩
  · by_cases hz1 : y = 1
    · exact ⟨List.replicate 201 0, q + 1, Nat.le_of_eq List.length_replicate, by omega, by omega, Ev.bind h4 (Ev.bind hy (Ev.neg hz (Ev.pos hz1 (Ev.pos (by omega) (Ev.now _)))))⟩
    · exact ⟨b, q + 1, by omega, by omega, by omega, Ev.bind h4 (Ev.bind hy (Ev.neg hz (Ev.neg hz1 (Ev.now _))))⟩

end Go.Proofs.Ytcgajgmcjgoipaa.Pure
