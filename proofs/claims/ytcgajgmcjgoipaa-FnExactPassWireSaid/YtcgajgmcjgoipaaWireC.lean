/- What the program's and the reference's ArrivalsOf answer, as one plain function. -/
import Derived.Test.YtcgajgmcjgoipaaPAllx2
import Derived.Test.YtcgajgmcjgoipaaPAllx3
import Derived.Test.YtcgajgmcjgoipaaWireA
import Derived.Test.YtcgajgmcjgoipaaArrLaw
namespace Go.Proofs.Ytcgajgmcjgoipaa.Pure
open Go.RowKit Go.Proofs.Ytcgajgmcjgoipaa.PAll Go.Proofs.YtcgajgmcjgoipaaW.PrintWords Go.Proofs.YtcgajgmcjgoipaaW.PrintLast Go.Proofs.YtcgajgmcjgoipaaW.PrintMore Go.Proofs.Ytcgajgmcjgoipaa.Base

theorem fateI_V (l : List Int) (i : Int) : fateI l i = Stab.fateV l i := rfl
/-- Which messages arrive. -/
def arrI (l : List Int) (n : Int) : List Int := if sendI l n = true then Stab.arr l n.toNat else []
theorem implArr (l : List Int) (n : Int) : impl_ArrivalsOf.f l n = some (arrI l n) := by
  unfold impl_ArrivalsOf.f arrI
  rw [implSend, Option.bind_some]
  split <;> rfl
theorem specAt (l : List Int) (i : Int) (h0 : 0 ≤ i) (h1 : i ≤ 1000) : spec_l4At.f l i = some (Stab.atF (Stab.fateV l i) i) := by
  unfold spec_l4At.f Stab.atF
  rw [specFate l i h0, Option.bind_some, fateI_V, w64 (x := 2 * i) (by omega) (by omega), w64 (x := 2 * i + 3) (by omega) (by omega)]
  split
  · rfl
  · split <;> rfl
theorem atP_len (l : List Int) (t k : Nat) : (Stab.atP l t k).length ≤ 2 := by
  unfold Stab.atP
  repeat' split
  all_goals simp
theorem innP_len (l : List Int) (t k : Nat) : (Stab.innP l t k).length ≤ 2 * k := by
  induction k with
  | zero => simp [Stab.innP]
  | succ k ih =>
    have := atP_len l t k
    rw [Stab.innP, List.length_append]
    omega
theorem outP_len (l : List Int) (n T : Nat) (hn : n ≤ 60) : (Stab.outP l n T).length ≤ 120 * T := by
  induction T with
  | zero => simp [Stab.outP]
  | succ T ih =>
    have := innP_len l T n
    rw [Stab.outP, List.length_append]
    omega
theorem specArr_in (l : List Int) (n t : Nat) (hn : n ≤ 60) (ht : t ≤ 1000) (R : List Int) (hnext : Ev (fun k => spec_ArrivalsOf.l0 k l (n : Int) ((Stab.outP l n (t + 1)).map (·.2)) ((t + 1 : Nat) : Int)) R) (d : Nat) :
    ∀ i : Nat, i + d = n → Ev (fun k => spec_ArrivalsOf.l1 k l (n : Int) ((Stab.outP l n t ++ Stab.innP l t i).map (·.2)) (t : Int) (i : Int)) R := by
  induction d with
  | zero =>
    intro i hi
    obtain rfl : i = n := by omega
    refine Ev.succ ?_
    simp only [spec_ArrivalsOf.l1]
    rw [succ_i t (by omega)]
    exact Ev.neg (by omega) hnext
  | succ d ih =>
    intro i hi
    have h1 := ih (i + 1) (by omega)
    have hl1 := outP_len l n t hn
    have hl2 := innP_len l t i
    have hlen : ((Stab.outP l n t ++ Stab.innP l t i).map (·.2)).length ≤ 120 * t + 2 * i := by rw [List.length_map, List.length_append]; omega
    rw [Stab.innP, ← List.append_assoc, List.map_append] at h1
    refine Ev.succ ?_
    simp only [spec_ArrivalsOf.l1]
    rw [succ_i i (by omega)]
    refine Ev.pos (by omega) (Ev.bindc (specAt l _ (by omega) (by omega)) ?_)
    by_cases hx : Stab.atF (Stab.fateV l (i : Int)) (i : Int) = (t : Int)
    · refine Ev.pos hx (Ev.pos (by omega) (Ev.bindc rfl (Ev.bindc (specFate l _ (by omega)) ?_)))
      rw [fateI_V]
      by_cases h2 : Stab.fateV l (i : Int) = 2
      · refine Ev.pos h2 (Ev.pos (by rw [List.length_append, List.length_singleton]; omega) ?_)
        unfold Stab.atP at h1
        rw [if_pos hx, if_pos h2] at h1
        rw [List.append_assoc]
        exact h1
      · refine Ev.neg h2 ?_
        unfold Stab.atP at h1
        rw [if_pos hx, if_neg h2] at h1
        exact h1
    · refine Ev.neg hx ?_
      unfold Stab.atP at h1
      rw [if_neg hx, List.map_nil, List.append_nil] at h1
      exact h1
theorem specArr_loop (l : List Int) (n : Nat) (hn : n ≤ 60) (d : Nat) :
    ∀ t : Nat, t + d = 2 * n + 3 → Ev (fun k => spec_ArrivalsOf.l0 k l (n : Int) ((Stab.outP l n t).map (·.2)) (t : Int)) ((Stab.outP l n (2 * n + 3)).map (·.2)) := by
  induction d with
  | zero =>
    intro t ht
    obtain rfl : t = 2 * n + 3 := by omega
    refine Ev.succ ?_
    simp only [spec_ArrivalsOf.l0]
    rw [w64 (x := 2 * (n : Int)) (by omega) (by omega), w64 (x := 2 * (n : Int) + 3) (by omega) (by omega)]
    exact Ev.neg (by omega) (Ev.now _)
  | succ d ih =>
    intro t ht
    refine Ev.succ ?_
    simp only [spec_ArrivalsOf.l0]
    rw [w64 (x := 2 * (n : Int)) (by omega) (by omega), w64 (x := 2 * (n : Int) + 3) (by omega) (by omega)]
    have := specArr_in l n t hn (by omega) _ (ih (t + 1) (by omega)) n 0 (by omega)
    rw [Stab.innP, List.append_nil] at this
    exact Ev.pos (by omega) this
theorem specArr (l : List Int) (n : Int) (hl : l.length ≤ 1099511627776) : Ev (fun k => spec_ArrivalsOf.f k l n) (arrI l n) := by
  unfold spec_ArrivalsOf.f
  have no : Ev (fun k => spec_ArrivalsOf.j0 k l n [] true) [] := by
    refine Ev.succ ?_
    simp only [spec_ArrivalsOf.j0]
    exact Ev.pos trivial (Ev.now _)
  refine Ev.bindc rfl (Ev.bind (specFV l hl) ?_)
  unfold arrI sendI
  by_cases h : FV l = true
  · refine Ev.pos h (Ev.bindc (l1In_eq _ _ _) ?_)
    by_cases h2 : 0 ≤ n ∧ n ≤ 60
    · obtain ⟨m, rfl⟩ := Int.eq_ofNat_of_zero_le h2.1
      rw [decide_eq_true h2, h, Bool.and_true, if_pos rfl, Int.toNat_natCast, Stab.arr_out]
      refine Ev.succ ?_
      simp only [spec_ArrivalsOf.j0]
      exact Ev.neg Bool.false_ne_true (specArr_loop l m (by omega) (2 * m + 3) 0 (by omega))
    · rw [decide_eq_false h2, Bool.and_false, if_neg Bool.false_ne_true]
      exact no
  · rw [Bool.eq_false_iff.2 h, Bool.false_and, if_neg Bool.false_ne_true]
    exact Ev.neg Bool.false_ne_true no
theorem arrI_len (l : List Int) (n : Int) : (arrI l n).length ≤ 120 := by
  unfold arrI sendI
  split
  · rename_i h
    have h2 := of_decide_eq_true (Bool.and_eq_true_iff.1 h).2
    rw [Stab.arr_len]
    have := Stab.pushes_len l n.toNat
    omega
  · simp
theorem sendI_yes {l : List Int} {n : Int} (h : sendI l n = true) : FV l = true ∧ 0 ≤ n ∧ n ≤ 60 := by
  unfold sendI at h
  exact ⟨(Bool.and_eq_true_iff.1 h).1, of_decide_eq_true (Bool.and_eq_true_iff.1 h).2⟩
theorem sendI_of {l : List Int} {n : Int} (h : FV l = true) (h2 : 0 ≤ n ∧ n ≤ 60) : sendI l n = true := by
  unfold sendI
  rw [h, decide_eq_true h2]
  rfl

end Go.Proofs.Ytcgajgmcjgoipaa.Pure
