/- What the laws' marks in bytes answer: each byte marked by its number, and the marks read again. -/
import Derived.Test.YtcgajgmcjgoipaaPAllx5
import Derived.Test.YtcgajgmcjgoipaaLibB
namespace Go.Proofs.Ytcgajgmcjgoipaa.Pure
open Go.RowKit Go.Proofs.Ytcgajgmcjgoipaa.PAll Go.Proofs.YtcgajgmcjgoipaaW.PrintWords Go.Proofs.YtcgajgmcjgoipaaW.PrintLast Go.Proofs.Ytcgajgmcjgoipaa.Base

/-- The marks of n bytes, numbered from q on. -/
def marks (q n : Nat) : List Int := (List.range n).map fun i => ((q + i : Nat) : Int) % 256
theorem marks_length (q n : Nat) : (marks q n).length = n := by simp [marks]
theorem marks_get (q n i : Nat) (hi : i < n) : (marks q n)[i]? = some (((q + i : Nat) : Int) % 256) := by
  unfold marks
  rw [List.getElem?_map, List.getElem?_range hi]
  rfl
theorem markByteS_loop (q n : Nat) (hq : q + n ≤ 1099511627776) (d : Nat) : ∀ (i : Nat) (x0 : List Int), x0.length = n → i + d = n → (∀ j, j < i → x0[j]? = (marks q n)[j]?) → Ev (fun k => laws_markByteS.l0 k x0 ((q + i : Nat) : Int) (i : Int)) (((q + n : Nat) : Int), marks q n) := by
  induction d with
  | zero =>
    intro i x0 h1 h2 h3
    obtain rfl : i = n := by omega
    refine Ev.next (f := fun _ => some (((q + i : Nat) : Int), marks q i)) (fun k => ?_) (Ev.now _)
    simp only [laws_markByteS.l0]
    rw [if_neg (by omega)]
    congr 2
    apply List.ext_getElem?
    intro j
    by_cases hj : j < i
    · exact h3 j hj
    · rw [List.getElem?_eq_none (by omega), List.getElem?_eq_none (by rw [marks_length]; omega)]
  | succ d ih =>
    intro i x0 h1 h2 h3
    refine Ev.next (f := fun k => laws_markByteS.l0 k (x0.set i (((q + i : Nat) : Int) % 256)) ((q + (i + 1) : Nat) : Int) ((i + 1 : Nat) : Int)) (fun k => ?_) (ih (i + 1) _ (by simpa using h1) (by omega) ?_)
    · simp only [laws_markByteS.l0]
      rw [if_pos (by omega), if_pos (by omega), succ_i i (by omega), succ_i (q + i) (by omega), Int.toNat_natCast]
      rfl
    · intro j hj
      rw [List.getElem?_set]
      by_cases e : i = j
      · subst e
        rw [if_pos rfl, if_pos (by omega), marks_get q n i (by omega)]
      · rw [if_neg e]
        exact h3 j (by omega)
theorem markByteS_ev (l : List Int) (q : Nat) (hq : q + l.length ≤ 1099511627776) : Ev (fun k => laws_markByteS.f k l (q : Int)) (((q + l.length : Nat) : Int), marks q l.length) := by
  unfold laws_markByteS.f
  exact markByteS_loop q l.length hq l.length 0 l rfl (by omega) (fun j hj => absurd hj (Nat.not_lt_zero _))
theorem heldByteS_loop (q n : Nat) (hq : q + n ≤ 1099511627776) (d : Nat) : ∀ (i : Nat), i + d = n → Ev (fun k => laws_heldByteS.l0 k (marks q n) ((q + i : Nat) : Int) (i : Int)) ((q + n : Nat) : Int) := by
  induction d with
  | zero =>
    intro i h2
    obtain rfl : i = n := by omega
    refine Ev.next (f := fun _ => some ((q + i : Nat) : Int)) (fun k => ?_) (Ev.now _)
    simp only [laws_heldByteS.l0]
    rw [if_neg (by rw [marks_length]; omega)]
  | succ d ih =>
    intro i h2
    refine Ev.next (f := fun k => laws_heldByteS.l0 k (marks q n) ((q + (i + 1) : Nat) : Int) ((i + 1 : Nat) : Int)) (fun k => ?_) (ih (i + 1) (by omega))
    simp only [laws_heldByteS.l0]
    have e : rd (marks q n) (i : Int) = ((q + i : Nat) : Int) % 256 := by
      rw [rd_nat, List.getD_eq_getElem?_getD, marks_get q n i (by omega)]
      rfl
    rw [if_pos (by rw [marks_length]; omega), if_pos (by omega), if_pos e, succ_i i (by omega), succ_i (q + i) (by omega)]
    rfl
theorem heldByteS_ev (q n : Nat) (hq : q + n ≤ 1099511627776) : Ev (fun k => laws_heldByteS.f k (marks q n) (q : Int)) ((q + n : Nat) : Int) := by
  unfold laws_heldByteS.f
  exact heldByteS_loop q n hq n 0 (by omega)

end Go.Proofs.Ytcgajgmcjgoipaa.Pure
