/- Small facts of the pure side: what the laws' copies, comparisons and marks of whole numbers answer. -/
import Derived.Test.YtcgajgmcjgoipaaPAllx4
import Derived.Test.YtcgajgmcjgoipaaLibB
namespace Go.Proofs.Ytcgajgmcjgoipaa.Pure
open Go.RowKit Go.Proofs.Ytcgajgmcjgoipaa.PAll Go.Proofs.YtcgajgmcjgoipaaW.PrintWords Go.Proofs.YtcgajgmcjgoipaaW.PrintLast Go.Proofs.Ytcgajgmcjgoipaa.Base


theorem wnInts_loop (a b : List Int) (hl : a.length ≤ 4611686018427387904) (hab : a.length = b.length) (d : Nat) : ∀ (i : Nat), i + d = a.length → (∀ j, j < i → a[j]? = b[j]?) → Ev (fun k => laws_wnInts.l0 k b a (a.length : Int) (i : Int)) (decide (a = b)) := by
  induction d with
  | zero =>
    intro i h2 h3
    refine Ev.next (f := fun _ => some (decide (a = b))) (fun k => ?_) (Ev.now _)
    simp only [laws_wnInts.l0]
    rw [if_neg (by omega)]
    congr 1
    refine (decide_eq_true ?_).symm
    apply List.ext_getElem?
    intro j
    by_cases hj : j < i
    · exact h3 j hj
    · rw [List.getElem?_eq_none (by omega), List.getElem?_eq_none (by omega)]
  | succ d ih =>
    intro i h2 h3
    by_cases e : rd b (i : Int) = rd a (i : Int)
    · refine Ev.next (f := fun k => laws_wnInts.l0 k b a (a.length : Int) ((i + 1 : Nat) : Int)) (fun k => ?_) (ih (i + 1) (by omega) ?_)
      · simp only [laws_wnInts.l0]
        rw [if_pos (by omega), if_pos (by omega), if_pos (by omega), if_pos (by omega), if_pos e, succ_i i (by omega)]
      · intro j hj
        by_cases ej : j = i
        · subst ej
          rw [List.getElem?_eq_getElem (by omega), List.getElem?_eq_getElem (by omega), ← rd_get a j (by omega), ← rd_get b j (by omega), e]
        · exact h3 j (by omega)
    · refine Ev.next (f := fun _ => some (decide (a = b))) (fun k => ?_) (Ev.now _)
      simp only [laws_wnInts.l0]
      rw [if_pos (by omega), if_pos (by omega), if_pos (by omega), if_pos (by omega), if_neg e]
      congr 1
      refine (decide_eq_false ?_).symm
      rintro rfl
      exact e rfl
theorem wnInts_ev (a b : List Int) (hl : a.length ≤ 1099511627776) : Ev (fun k => laws_wnInts.f k a b) (decide (a = b)) := by
  unfold laws_wnInts.f
  by_cases h : a.length = b.length
  · exact Ev.pos (by omega) (wnInts_loop a b (by omega) h a.length 0 (by omega) (fun j hj => absurd hj (Nat.not_lt_zero _)))
  · refine Ev.neg (by omega) (Ev.eq (Ev.now _) (decide_eq_false ?_).symm)
    rintro rfl
    exact h rfl
theorem wnInts_self (a : List Int) (hl : a.length ≤ 1099511627776) : Ev (fun k => laws_wnInts.f k a a) true := Ev.eq (wnInts_ev a a hl) (by simp)

end Go.Proofs.Ytcgajgmcjgoipaa.Pure
