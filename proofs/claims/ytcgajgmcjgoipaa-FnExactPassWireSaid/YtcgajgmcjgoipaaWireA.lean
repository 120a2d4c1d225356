/- What the program's and the reference's functions on fates answer, as plain functions of lists. -/
import Derived.Test.YtcgajgmcjgoipaaPAllx1
import Derived.Test.YtcgajgmcjgoipaaPAllx2
import Derived.Test.YtcgajgmcjgoipaaLibI
namespace Go.Proofs.Ytcgajgmcjgoipaa.Pure
open Go.RowKit Go.Proofs.Ytcgajgmcjgoipaa.PAll Go.Proofs.YtcgajgmcjgoipaaW.PrintWords Go.Proofs.YtcgajgmcjgoipaaW.PrintLast Go.Proofs.YtcgajgmcjgoipaaW.PrintMore Go.Proofs.Ytcgajgmcjgoipaa.Base

theorem l1In_eq (a b c : Int) : spec_l1In.f a b c = some (decide (b ≤ a ∧ a ≤ c)) := by
  unfold spec_l1In.f
  by_cases h : a ≥ b
  · rw [if_pos h]; simp [show b ≤ a from h]
  · rw [if_neg h]; simp; omega
theorem within_eq (a b c : Int) : impl_within.f a b c = some (decide (b ≤ a ∧ a ≤ c)) := by
  unfold impl_within.f
  by_cases h : b ≤ a
  · rw [if_pos h]; simp [h]
  · rw [if_neg h]; simp [h]
/-- Fates. -/
def FV (l : List Int) : Bool := decide (l.length ≤ 200) && l.all fun x => decide (0 ≤ x ∧ x ≤ 4)
theorem implFV (l : List Int) : impl_FatesValid.f l = some (FV l) := rfl
theorem FV_len {l : List Int} (h : FV l = true) : l.length ≤ 200 := by
  unfold FV at h
  exact of_decide_eq_true (Bool.and_eq_true_iff.1 h).1
theorem FV_range {l : List Int} (h : FV l = true) (x : Int) (hx : x ∈ l) : 0 ≤ x ∧ x ≤ 4 := by
  unfold FV at h
  exact of_decide_eq_true (List.all_eq_true.1 (Bool.and_eq_true_iff.1 h).2 x hx)
theorem all_drop {p : Int → Bool} (l : List Int) (i : Nat) (h : ∀ j, j < i → p (rd l (j : Int)) = true) (hi : i ≤ l.length) : l.all p = (l.drop i).all p := by
  induction i with
  | zero => simp
  | succ i ih =>
    rw [ih (fun j hj => h j (by omega)) (by omega), List.drop_eq_getElem_cons (by omega), List.all_cons]
    have := h i (by omega)
    rw [rd_get l i (by omega)] at this
    rw [this, Bool.true_and]
theorem specFV_loop (l : List Int) (hl : l.length ≤ 1099511627776) (d : Nat) : ∀ i : Nat, i + d = l.length → (∀ j, j < i → decide (0 ≤ rd l (j : Int) ∧ rd l (j : Int) ≤ 4) = true) → Ev (fun k => spec_FatesValid.l0 k l (i : Int)) (FV l) := by
  induction d with
  | zero =>
    intro i hi h
    refine Ev.succ ?_
    simp only [spec_FatesValid.l0]
    refine Ev.neg (by omega) (Ev.eq (Ev.now _) ?_)
    unfold FV
    have e : (l.all fun x => decide (0 ≤ x ∧ x ≤ 4)) = true := by
      rw [all_drop (p := fun x => decide (0 ≤ x ∧ x ≤ 4)) l i h (by omega), List.drop_of_length_le (by omega)]
      rfl
    rw [e, Bool.and_true]
    exact decide_eq_decide.2 (by omega)
  | succ d ih =>
    intro i hi h
    refine Ev.succ ?_
    simp only [spec_FatesValid.l0]
    rw [succ_i i (by omega)]
    refine Ev.pos (by omega) (Ev.pos (by omega) (Ev.bindc (l1In_eq _ _ _) ?_))
    by_cases hx : 0 ≤ rd l (i : Int) ∧ rd l (i : Int) ≤ 4
    · refine Ev.pos (decide_eq_true hx) (ih (i + 1) (by omega) (fun j hj => ?_))
      by_cases e : j = i
      · subst e
        exact decide_eq_true hx
      · exact h j (by omega)
    · refine Ev.neg (by simpa using hx) (Ev.eq (Ev.now _) ?_)
      unfold FV
      have e : (l.all fun x => decide (0 ≤ x ∧ x ≤ 4)) = false := by
        rw [all_drop (p := fun x => decide (0 ≤ x ∧ x ≤ 4)) l i h (by omega), List.drop_eq_getElem_cons (by omega), List.all_cons, ← rd_get l i (by omega), decide_eq_false hx, Bool.false_and]
      rw [e, Bool.and_false]
theorem specFV (l : List Int) (hl : l.length ≤ 1099511627776) : Ev (fun k => spec_FatesValid.f k l) (FV l) := by
  unfold spec_FatesValid.f
  exact specFV_loop l hl l.length 0 (by omega) (fun j hj => absurd hj (Nat.not_lt_zero _))

/-- The fate of a message. -/
def fateI (l : List Int) (i : Int) : Int := if i < (l.length : Int) then rd l i else 0
theorem implFate (l : List Int) (i : Int) (hi : 0 ≤ i) : impl_fate.f l i = some (fateI l i) := by
  unfold impl_fate.f fateI
  by_cases h : i < (l.length : Int)
  · rw [if_pos h, if_pos h, if_pos hi]
  · rw [if_neg h, if_neg h]
theorem specFate (l : List Int) (i : Int) (hi : 0 ≤ i) : spec_l4Fate.f l i = some (fateI l i) := by
  unfold spec_l4Fate.f fateI
  by_cases h : i < (l.length : Int)
  · rw [if_pos h, if_pos h, if_pos hi]
  · rw [if_neg h, if_neg h]
def sendI (l : List Int) (n : Int) : Bool := FV l && decide (0 ≤ n ∧ n ≤ 60)
theorem implSend (l : List Int) (n : Int) : impl_canSend.f l n = some (sendI l n) := by
  unfold impl_canSend.f sendI
  rw [implFV, Option.bind_some]
  by_cases h : FV l = true
  · rw [if_pos h, within_eq, Option.bind_some, h, Bool.true_and]
  · rw [if_neg h, Bool.eq_false_iff.2 h, Bool.false_and]

end Go.Proofs.Ytcgajgmcjgoipaa.Pure
