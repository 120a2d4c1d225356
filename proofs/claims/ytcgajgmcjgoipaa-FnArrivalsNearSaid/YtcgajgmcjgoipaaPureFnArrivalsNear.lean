/- For all bytes drawn from the law FnArrivalsNear answers true: a message is overtaken by the next one at most, and that only if it alone is late. No condition. -/
import Derived.Test.YtcgajgmcjgoipaaPAllx7
import Derived.Test.YtcgajgmcjgoipaaWireC
namespace Go.Proofs.Ytcgajgmcjgoipaa.Pure
open Go.RowKit Go.Proofs.Ytcgajgmcjgoipaa.PAll Go.Proofs.YtcgajgmcjgoipaaW.PrintWords Go.Proofs.YtcgajgmcjgoipaaW.PrintLast Go.Proofs.YtcgajgmcjgoipaaW.PrintMore Go.Proofs.Ytcgajgmcjgoipaa.Base

theorem near_in (l a : List Int) (i : Nat) (h : FV l = true) (ha : a.length ≤ 120) (h0 : ∀ x ∈ a, 0 ≤ x ∧ x ≤ 1000) (hi : i < a.length) (hp : ∀ j, i < j → j < a.length → rd a (j : Int) < rd a (i : Int) → rd a (i : Int) = rd a (j : Int) + 1 ∧ Stab.fateV l (rd a (j : Int)) = 3 ∧ Stab.fateV l (rd a (i : Int)) ≠ 3)
    (hnext : Ev (fun k => laws_FnArrivalsNear.l0 k l a a (a.length : Int) ((i + 1 : Nat) : Int)) true) (d : Nat) :
    ∀ j : Nat, j + d = a.length - (i + 1) → Ev (fun k => laws_FnArrivalsNear.l1 k l a (rd a (i : Int)) a (a.length : Int) (i : Int) (a.drop (i + 1)) (((a.drop (i + 1)).length : Nat) : Int) (j : Int)) true := by
  induction d with
  | zero =>
    intro j hj
    refine Ev.succ ?_
    simp only [laws_FnArrivalsNear.l1]
    rw [List.length_drop, succ_i i (by omega)]
    exact Ev.neg (by omega) hnext
  | succ d ih =>
    intro j hj
    have h1 := ih (j + 1) (by omega)
    have hr : rd (a.drop (i + 1)) (j : Int) = rd a ((i + 1 + j : Nat) : Int) := by
      rw [rd_nat, rd_nat]
      simp [List.getD_eq_getElem?_getD, List.getElem?_drop]
    have hm : rd a ((i + 1 + j : Nat) : Int) ∈ a := by
      rw [rd_get a _ (by omega)]
      exact List.getElem_mem _
    have hk : rd a (i : Int) ∈ a := by
      rw [rd_get a _ (by omega)]
      exact List.getElem_mem _
    have hb1 := h0 _ hm
    have hb2 := h0 _ hk
    have hpp := hp (i + 1 + j) (by omega) (by omega)
    refine Ev.succ ?_
    simp only [laws_FnArrivalsNear.l1]
    rw [hr, succ_i j (by omega), w64 (x := rd a ((i + 1 + j : Nat) : Int) + 1) (by omega) (by omega)]
    refine Ev.pos (by rw [List.length_drop]; omega) (Ev.pos (by omega) (Ev.pos (by rw [List.length_drop]; omega) ?_))
    by_cases hlt : rd a ((i + 1 + j : Nat) : Int) < rd a (i : Int)
    · obtain ⟨e1, e2, e3⟩ := hpp hlt
      exact Ev.pos hlt (Ev.pos e1 (Ev.bindc (fateOf_in h hb1.1) (Ev.pos e2 (Ev.bindc (fateOf_in h hb2.1) (Ev.neg e3 h1)))))
    · exact Ev.neg hlt h1
theorem near_loop (l a : List Int) (h : a = [] ∨ FV l = true) (ha : a.length ≤ 120) (h0 : ∀ x ∈ a, 0 ≤ x ∧ x ≤ 1000) (hp : ∀ i j, i < j → j < a.length → rd a (j : Int) < rd a (i : Int) → rd a (i : Int) = rd a (j : Int) + 1 ∧ Stab.fateV l (rd a (j : Int)) = 3 ∧ Stab.fateV l (rd a (i : Int)) ≠ 3) (d : Nat) :
    ∀ i : Nat, i + d = a.length → Ev (fun k => laws_FnArrivalsNear.l0 k l a a (a.length : Int) (i : Int)) true := by
  induction d with
  | zero =>
    intro i hi
    refine Ev.succ ?_
    simp only [laws_FnArrivalsNear.l0]
    exact Ev.neg (by omega) (Ev.now _)
  | succ d ih =>
    intro i hi
    have hv : FV l = true := h.resolve_left (fun e => by rw [e] at hi; simp at hi)
    refine Ev.succ ?_
    simp only [laws_FnArrivalsNear.l0]
    rw [succ_i i (by omega), Int.toNat_natCast]
    exact Ev.pos (by omega) (Ev.pos (by omega) (Ev.pos (by omega) (Ev.pos (by omega) (Ev.pos (by omega) (Ev.bindc rfl (near_in l a i hv ha h0 (by omega) (hp i) (ih (i + 1) (by omega)) (a.length - (i + 1)) 0 (by omega)))))))
theorem FnArrivalsNear : laws_FnArrivalsNear.Pure := by
  intro l h1 h2 h3
  refine Ev.rounds ?_
  unfold laws_FnArrivalsNear.f
  have hb := wf_bytes h3
  by_cases h : (l.length : Int) > 1048576
  · exact Ev.pos h (Ev.now _)
  · obtain ⟨b, n, g1, g2, g3, g4⟩ := drawArr_ev l hb
    have hlen := arrI_len b n
    refine Ev.neg h (Ev.bind g4 (Ev.bindc (implArr b n) (Ev.bind (specArr b n (by omega)) (Ev.bind (wnInts_self (arrI b n) (by omega)) (Ev.pos rfl ?_)))))
    have hor : arrI b n = [] ∨ sendI b n = true := by
      unfold arrI
      by_cases e : sendI b n = true
      · exact Or.inr e
      · exact Or.inl (if_neg e)
    refine near_loop b (arrI b n) ?_ hlen ?_ ?_ (arrI b n).length 0 (by omega)
    · rcases hor with e | e
      · exact Or.inl e
      · exact Or.inr (sendI_yes e).1
    · intro x hx
      rcases hor with e | e
      · rw [e] at hx
        cases hx
      · have := sendI_yes e
        unfold arrI at hx
        rw [if_pos e] at hx
        have := Stab.arr_mem hx
        omega
    · intro i j hij hj hlt
      have hp : (arrI b n).Pairwise fun k m => m < k → k = m + 1 ∧ Stab.fateV b m = 3 ∧ Stab.fateV b k ≠ 3 := by
        unfold arrI
        split
        · exact Stab.arr_near b n.toNat
        · exact List.Pairwise.nil
      have := List.pairwise_iff_getElem.1 hp i j (by omega) hj hij
      rw [rd_get _ i (by omega), rd_get _ j hj] at hlt ⊢
      exact this hlt
end Go.Proofs.Ytcgajgmcjgoipaa.Pure
