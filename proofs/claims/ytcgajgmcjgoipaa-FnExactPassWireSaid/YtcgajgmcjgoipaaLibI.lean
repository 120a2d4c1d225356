/- Small facts of the pure side: what the laws' copies, comparisons and marks of whole numbers answer. -/
import Derived.Test.YtcgajgmcjgoipaaPAllx1
import Derived.Test.YtcgajgmcjgoipaaPAllx5
import Derived.Test.YtcgajgmcjgoipaaLibB
namespace Go.Proofs.Ytcgajgmcjgoipaa.Pure
open Go.RowKit Go.Proofs.Ytcgajgmcjgoipaa.PAll Go.Proofs.YtcgajgmcjgoipaaW.PrintWords Go.Proofs.YtcgajgmcjgoipaaW.PrintLast Go.Proofs.Ytcgajgmcjgoipaa.Base

theorem toIntS_loop (l : List Int) (hl : l.length ≤ 4611686018427387904) (d : Nat) : ∀ (i : Nat) (x3 : List Int), x3.length = l.length → i + d = l.length → (∀ j, j < i → x3[j]? = l[j]?) → Ev (fun k => laws_toIntS.l0 k l x3 (i : Int)) l := by
  induction d with
  | zero =>
    intro i x3 h1 h2 h3
    refine Ev.next (f := fun _ => some l) (fun k => ?_) (Ev.now _)
    simp only [laws_toIntS.l0]
    rw [if_neg (by omega)]
    congr 1
    apply List.ext_getElem?
    intro j
    by_cases hj : j < i
    · exact h3 j hj
    · rw [List.getElem?_eq_none (by omega), List.getElem?_eq_none (by omega)]
  | succ d ih =>
    intro i x3 h1 h2 h3
    refine Ev.next (f := fun k => laws_toIntS.l0 k l (x3.set i (rd l (i : Int))) ((i + 1 : Nat) : Int)) (fun k => ?_) (ih (i + 1) _ (by simpa using h1) (by omega) ?_)
    · simp only [laws_toIntS.l0]
      rw [if_pos (by omega), if_pos (by omega), if_pos (by omega), succ_i i (by omega), Int.toNat_natCast]
    · intro j hj
      rw [List.getElem?_set]
      by_cases e : i = j
      · subst e
        rw [if_pos rfl, if_pos (by omega), rd_get l i (by omega), List.getElem?_eq_getElem (by omega)]
      · rw [if_neg e]
        exact h3 j (by omega)
theorem toIntS_ev (l : List Int) (hl : l.length ≤ 1048576) : Ev (fun k => laws_toIntS.f k l) l := by
  unfold laws_toIntS.f
  refine Ev.pos (by omega) (Ev.pos (by omega) ?_)
  exact toIntS_loop l (by omega) l.length 0 _ (by simp) (by omega) (fun j hj => absurd hj (Nat.not_lt_zero _))

theorem eqIntS_loop (a b : List Int) (hl : a.length ≤ 4611686018427387904) (hab : a.length = b.length) (d : Nat) : ∀ (i : Nat), i + d = a.length → (∀ j, j < i → a[j]? = b[j]?) → Ev (fun k => laws_eqIntS.l0 k a b (i : Int)) (decide (a = b)) := by
  induction d with
  | zero =>
    intro i h2 h3
    refine Ev.next (f := fun _ => some (decide (a = b))) (fun k => ?_) (Ev.now _)
    simp only [laws_eqIntS.l0]
    rw [if_neg (by omega)]
    congr 1
    refine (decide_eq_true ?_).symm
    apply List.ext_getElem?
    intro j
    by_cases hj : j < i
    · exact h3 j hj
    · rw [List.getElem?_eq_none (by omega), List.getElem?_eq_none (by omega)]
  | succ d ih =>
    intro i h2 h3
    by_cases e : rd a (i : Int) = rd b (i : Int)
    · refine Ev.next (f := fun k => laws_eqIntS.l0 k a b ((i + 1 : Nat) : Int)) (fun k => ?_) (ih (i + 1) (by omega) ?_)
      · simp only [laws_eqIntS.l0]
        rw [if_pos (by omega), if_pos (by omega), if_pos (by omega), if_pos e, succ_i i (by omega)]
      · intro j hj
        by_cases ej : j = i
        · subst ej
          rw [List.getElem?_eq_getElem (by omega), List.getElem?_eq_getElem (by omega), ← rd_get a j (by omega), ← rd_get b j (by omega), e]
        · exact h3 j (by omega)
    · refine Ev.next (f := fun _ => some (decide (a = b))) (fun k => ?_) (Ev.now _)
      simp only [laws_eqIntS.l0]
      rw [if_pos (by omega), if_pos (by omega), if_pos (by omega), if_neg e]
      congr 1
      refine (decide_eq_false ?_).symm
      rintro rfl
      exact e rfl
theorem eqIntS_ev (a b : List Int) (hl : a.length ≤ 1099511627776) : Ev (fun k => laws_eqIntS.f k a b) (decide (a = b)) := by
  unfold laws_eqIntS.f
  by_cases h : a.length = b.length
  · exact Ev.pos (by omega) (eqIntS_loop a b (by omega) h a.length 0 (by omega) (fun j hj => absurd hj (Nat.not_lt_zero _)))
  · refine Ev.neg (by omega) (Ev.eq (Ev.now _) (decide_eq_false ?_).symm)
    rintro rfl
    exact h rfl
theorem eqIntS_self (a : List Int) (hl : a.length ≤ 1099511627776) : Ev (fun k => laws_eqIntS.f k a a) true := Ev.eq (eqIntS_ev a a hl) (by simp)

/-- The imarks of n numbers, numbered from q on. -/
def imarks (q n : Nat) : List Int := (List.range n).map fun i => ((q + i : Nat) : Int)
theorem imarks_length (q n : Nat) : (imarks q n).length = n := by simp [imarks]
theorem imarks_get (q n i : Nat) (hi : i < n) : (imarks q n)[i]? = some (((q + i : Nat) : Int)) := by
  unfold imarks
  rw [List.getElem?_map, List.getElem?_range hi]
  rfl
theorem markIntS_loop (q n : Nat) (hq : q + n ≤ 1099511627776) (d : Nat) : ∀ (i : Nat) (x0 : List Int), x0.length = n → i + d = n → (∀ j, j < i → x0[j]? = (imarks q n)[j]?) → Ev (fun k => laws_markIntS.l0 k x0 ((q + i : Nat) : Int) (i : Int)) (((q + n : Nat) : Int), imarks q n) := by
  induction d with
  | zero =>
    intro i x0 h1 h2 h3
    obtain rfl : i = n := by omega
    refine Ev.next (f := fun _ => some (((q + i : Nat) : Int), imarks q i)) (fun k => ?_) (Ev.now _)
    simp only [laws_markIntS.l0]
    rw [if_neg (by omega)]
    congr 2
    apply List.ext_getElem?
    intro j
    by_cases hj : j < i
    · exact h3 j hj
    · rw [List.getElem?_eq_none (by omega), List.getElem?_eq_none (by rw [imarks_length]; omega)]
  | succ d ih =>
    intro i x0 h1 h2 h3
    refine Ev.next (f := fun k => laws_markIntS.l0 k (x0.set i ((q + i : Nat) : Int)) ((q + (i + 1) : Nat) : Int) ((i + 1 : Nat) : Int)) (fun k => ?_) (ih (i + 1) _ (by simpa using h1) (by omega) ?_)
    · simp only [laws_markIntS.l0]
      rw [if_pos (by omega), if_pos (by omega), succ_i i (by omega), succ_i (q + i) (by omega), Int.toNat_natCast]
      rfl
    · intro j hj
      rw [List.getElem?_set]
      by_cases e : i = j
      · subst e
        rw [if_pos rfl, if_pos (by omega), imarks_get q n i (by omega)]
      · rw [if_neg e]
        exact h3 j (by omega)
theorem markIntS_ev (l : List Int) (q : Nat) (hq : q + l.length ≤ 1099511627776) : Ev (fun k => laws_markIntS.f k l (q : Int)) (((q + l.length : Nat) : Int), imarks q l.length) := by
  unfold laws_markIntS.f
  exact markIntS_loop q l.length hq l.length 0 l rfl (by omega) (fun j hj => absurd hj (Nat.not_lt_zero _))

end Go.Proofs.Ytcgajgmcjgoipaa.Pure
