/- Small facts of the pure side: what the laws' copies, comparisons and marks of bytes answer, and that the draws answer, whatever the bytes that they are drawn of. -/
import Derived.Test.YtcgajgmcjgoipaaPAllx4
import Derived.Test.YtcgajgmcjgoipaaPAllx5
import Derived.Test.YtcgajgmcjgoipaaBase
namespace Go.Proofs.Ytcgajgmcjgoipaa.Pure
open Go.RowKit Go.Proofs.Ytcgajgmcjgoipaa.PAll Go.Proofs.YtcgajgmcjgoipaaW.PrintWords Go.Proofs.YtcgajgmcjgoipaaW.PrintLast Go.Proofs.Ytcgajgmcjgoipaa.Base

def Bytes (l : List Int) : Prop := ∀ x ∈ l, 0 ≤ x ∧ x < 256
theorem wf_u8 {b : Int} (h : (Lit.int .u8 b).wf = true) : 0 ≤ b ∧ b < 256 := by
  simp only [Lit.wf, Bool.and_eq_true, decide_eq_true_eq] at h
  have h1 : IntKind.min .u8 = 0 := rfl
  have h2 : IntKind.max .u8 = 255 := rfl
  omega
theorem wf_bytes {l : List Int} (h : ∀ x ∈ l, (Lit.int .u8 x).wf = true) : Bytes l := fun x hx => wf_u8 (h x hx)
theorem succ_i (i : Nat) (h : i ≤ 9223372036854775000) : wrap64 ((i : Int) + 1) = ((i + 1 : Nat) : Int) := by rw [w64 (by omega) (by omega)]; omega
theorem Bytes.at_ {l : List Int} (h : Bytes l) (i : Int) : 0 ≤ rd l i ∧ rd l i < 256 := by
  unfold rd
  rw [List.getD_eq_getElem?_getD]
  cases e : l[i.toNat]? with
  | none => exact ⟨by simp, by simp⟩
  | some x => exact h x (List.mem_of_getElem? e)

theorem toByteS_loop (l : List Int) (hl : l.length ≤ 4611686018427387904) (d : Nat) : ∀ (i : Nat) (x3 : List Int), x3.length = l.length → i + d = l.length → (∀ j, j < i → x3[j]? = l[j]?) → Ev (fun k => laws_toByteS.l0 k l x3 (i : Int)) l := by
  induction d with
  | zero =>
    intro i x3 h1 h2 h3
    refine Ev.next (f := fun _ => some l) (fun k => ?_) (Ev.now _)
    simp only [laws_toByteS.l0]
    rw [if_neg (by omega)]
    congr 1
    apply List.ext_getElem?
    intro j
    by_cases hj : j < i
    · exact h3 j hj
    · rw [List.getElem?_eq_none (by omega), List.getElem?_eq_none (by omega)]
  | succ d ih =>
    intro i x3 h1 h2 h3
    refine Ev.next (f := fun k => laws_toByteS.l0 k l (x3.set i (rd l (i : Int))) ((i + 1 : Nat) : Int)) (fun k => ?_) (ih (i + 1) _ (by simpa using h1) (by omega) ?_)
    · simp only [laws_toByteS.l0]
      rw [if_pos (by omega), if_pos (by omega), if_pos (by omega), succ_i i (by omega), Int.toNat_natCast]
    · intro j hj
      rw [List.getElem?_set]
      by_cases e : i = j
      · subst e
        rw [if_pos rfl, if_pos (by omega), rd_get l i (by omega), List.getElem?_eq_getElem (by omega)]
      · rw [if_neg e]
        exact h3 j (by omega)
theorem toByteS_ev (l : List Int) (hl : l.length ≤ 1048576) : Ev (fun k => laws_toByteS.f k l) l := by
  unfold laws_toByteS.f
  refine Ev.pos (by omega) (Ev.pos (by omega) ?_)
  exact toByteS_loop l (by omega) l.length 0 _ (by simp) (by omega) (fun j hj => absurd hj (Nat.not_lt_zero _))

theorem eqByteS_loop (a b : List Int) (hl : a.length ≤ 4611686018427387904) (hab : a.length = b.length) (d : Nat) : ∀ (i : Nat), i + d = a.length → (∀ j, j < i → a[j]? = b[j]?) → Ev (fun k => laws_eqByteS.l0 k a b (i : Int)) (decide (a = b)) := by
  induction d with
  | zero =>
    intro i h2 h3
    refine Ev.next (f := fun _ => some (decide (a = b))) (fun k => ?_) (Ev.now _)
    simp only [laws_eqByteS.l0]
    rw [if_neg (by omega)]
    congr 1
    refine (decide_eq_true ?_).symm
    apply List.ext_getElem?
    intro j
    by_cases hj : j < i
    · exact h3 j hj
    · rw [List.getElem?_eq_none (by omega), List.getElem?_eq_none (by omega)]
  | succ d ih =>
    intro i h2 h3
    by_cases e : rd a (i : Int) = rd b (i : Int)
    · refine Ev.next (f := fun k => laws_eqByteS.l0 k a b ((i + 1 : Nat) : Int)) (fun k => ?_) (ih (i + 1) (by omega) ?_)
      · simp only [laws_eqByteS.l0]
        rw [if_pos (by omega), if_pos (by omega), if_pos (by omega), if_pos e, succ_i i (by omega)]
      · intro j hj
        by_cases ej : j = i
        · subst ej
          rw [List.getElem?_eq_getElem (by omega), List.getElem?_eq_getElem (by omega), ← rd_get a j (by omega), ← rd_get b j (by omega), e]
        · exact h3 j (by omega)
    · refine Ev.next (f := fun _ => some (decide (a = b))) (fun k => ?_) (Ev.now _)
      simp only [laws_eqByteS.l0]
      rw [if_pos (by omega), if_pos (by omega), if_pos (by omega), if_neg e]
      congr 1
      refine (decide_eq_false ?_).symm
      rintro rfl
      exact e rfl
theorem eqByteS_ev (a b : List Int) (hl : a.length ≤ 1099511627776) : Ev (fun k => laws_eqByteS.f k a b) (decide (a = b)) := by
  unfold laws_eqByteS.f
  by_cases h : a.length = b.length
  · exact Ev.pos (by omega) (eqByteS_loop a b (by omega) h a.length 0 (by omega) (fun j hj => absurd hj (Nat.not_lt_zero _)))
  · refine Ev.neg (by omega) (Ev.eq (Ev.now _) (decide_eq_false ?_).symm)
    rintro rfl
    exact h rfl
theorem eqByteS_self (a : List Int) (hl : a.length ≤ 1099511627776) : Ev (fun k => laws_eqByteS.f k a a) true := Ev.eq (eqByteS_ev a a hl) (by simp)

/-! The draws. -/

end Go.Proofs.Ytcgajgmcjgoipaa.Pure
