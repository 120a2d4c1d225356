/- For all bytes drawn from the law FnClear answers true: a wire whose fates are all fine gives back the messages that were sent, or none where they cannot be sent. No condition. -/
import Derived.Test.YtcgajgmcjgoipaaPAllx3
import Derived.Test.YtcgajgmcjgoipaaPAllx8
import Derived.Test.YtcgajgmcjgoipaaWireD
namespace Go.Proofs.Ytcgajgmcjgoipaa.Pure
open Go.RowKit Go.Proofs.Ytcgajgmcjgoipaa.PAll Go.Proofs.YtcgajgmcjgoipaaW.PrintWords Go.Proofs.YtcgajgmcjgoipaaW.PrintLast Go.Proofs.YtcgajgmcjgoipaaW.PrintMore Go.Proofs.Ytcgajgmcjgoipaa.Base

theorem clear_fate {l : List Int} (h : clearI l = true) (i : Int) (hi : 0 ≤ i) : Stab.fateV l i = 0 := by
  unfold clearI at h
  have h2 := (Bool.and_eq_true_iff.1 h).2
  obtain ⟨n, rfl⟩ := Int.eq_ofNat_of_zero_le hi
  unfold Stab.fateV
  split
  · rw [rd_get l n (by omega)]
    exact of_decide_eq_true (List.all_eq_true.1 h2 _ (List.getElem_mem _))
  · rfl
theorem clear_FV {l : List Int} (h : clearI l = true) : FV l = true := by
  unfold clearI at h
  exact (Bool.and_eq_true_iff.1 h).1
theorem clear_pushes {l : List Int} (h : clearI l = true) (n : Nat) : Stab.pushes l n = (List.range n).map fun k : Nat => (2 * (k : Int), (k : Int)) := by
  induction n with
  | zero => rfl
  | succ n ih =>
    rw [Stab.pushes, ih, List.range_succ, List.map_append, clear_fate h _ (by omega)]
    unfold Stab.pushF
    rw [if_neg (by decide), if_neg (by decide), if_neg (by decide)]
    rfl
theorem clear_arr {l : List Int} (h : clearI l = true) (n : Nat) : Stab.arr l n = (List.range n).map fun k : Nat => (k : Int) := by
  have hs : (Stab.pushes l n).Pairwise fun x y => Go.Proofs.ltOf Stab.cfA y x = false := by
    rw [clear_pushes h, List.pairwise_map]
    refine (List.pairwise_lt_range).imp fun {a b} hab => ?_
    rw [Stab.ltA_false]
    simp only
    omega
  have e : ((Stab.pushes l n).mergeSort fun x y => !Go.Proofs.ltOf Stab.cfA y x) = Stab.pushes l n :=
    List.Perm.eq_of_pairwise (le := fun x y => Go.Proofs.ltOf Stab.cfA y x = false) (fun a b _ _ h1 h2 => Stab.ltA_eq a b h2 h1) (Stab.sorted_pushes l n) hs (List.mergeSort_perm _ _)
  unfold Stab.arr
  rw [e, clear_pushes h, List.map_map]
  rfl
theorem clear_pass {l : List Int} {L : List (List Int)} (h : clearI l = true) : passI l L = [] ∨ passI l L = L := by
  unfold passI
  split
  · refine Or.inr ?_
    rw [clear_arr h, List.map_map]
    refine List.ext_getElem (by simp) fun i h1 h2 => ?_
    simp only [List.getElem_map, List.getElem_range, Function.comp]
    unfold impl_PassWire.g passB
    rw [clear_fate h _ (by omega), if_neg (fun e => absurd e.1 (by decide)), Int.toNat_natCast, List.getD_eq_getElem?_getD, List.getElem?_eq_getElem h2, Option.getD_some]
  · exact Or.inl rfl
theorem drawClear_ev (l : List Int) (hb : Bytes l) : ∃ b, b.length ≤ 201 ∧ Ev (fun k => spec_DrawIsClear.f k l) b := by
  obtain ⟨s, hl', hs, ho⟩ := open_eq l
  obtain ⟨y, hy0, hy1, hy⟩ := pick_ev s 0 2 (hs hb) hl' (by omega) (by omega)
  unfold spec_DrawIsClear.f
  by_cases hz : y = 0
  · obtain ⟨v, hv0, hv1, hv⟩ := pick_ev s (0 + 1) 9 (hs hb) hl' (by omega) (by omega)
    exact ⟨List.replicate v.toNat 0, by rw [List.length_replicate]; omega, Ev.bindc ho (Ev.bind hy (Ev.pos hz (Ev.bind hv (Ev.pos hv0 (Ev.pos (by show v.toNat ≤ 35184372088832; omega) (Ev.now _))))))⟩
  · obtain ⟨b, q, h1, h2, h3, h4⟩ := bent_ev s (0 + 1) (hs hb) hl' (by omega)
    exact ⟨b, h1, Ev.bindc ho (Ev.bind hy (Ev.neg hz (Ev.bind h4 (Ev.now _))))⟩
theorem FnClear : laws_FnClear.Pure := by
  intro l l' h1 h2 h3 h4 h5 h6
  refine Ev.rounds ?_
  unfold laws_FnClear.f
  have hb := wf_bytes h3
  have hb' := wf_bytes h6
  have no : Ev (fun k => laws_FnClear.j0 k l l' true) true := by
    refine Ev.succ ?_
    simp only [laws_FnClear.j0]
    exact Ev.pos trivial (Ev.now _)
  by_cases h : (l.length : Int) > 1048576
  · exact Ev.pos h no
  · refine Ev.neg h ?_
    by_cases h' : (l'.length : Int) > 1048576
    · simpa only [decide_eq_true h'] using no
    · have hf : decide ((l'.length : Int) > 1048576) = false := decide_eq_false h'
      simp only [hf]
      obtain ⟨b, b1, b2⟩ := drawClear_ev l hb
      obtain ⟨c, L, c1, c2, c3, c4⟩ := drawPass_ev l' hb'
      refine Ev.succ ?_
      simp only [laws_FnClear.j0]
      refine Ev.neg Bool.false_ne_true (Ev.bind b2 (Ev.bind c4 (Ev.bindc (implClear b) (Ev.bind (specClear b (by omega)) (Ev.neg (by simp) ?_)))))
      cases hc : clearI b with
      | false =>
        refine Ev.succ ?_
        simp only [laws_FnClear.j1]
        refine Ev.pos (by rfl) (Ev.bind (specClear b (by omega)) ?_)
        rw [hc]
        exact Ev.eq (Ev.now _) (by decide)
      | true =>
        have hp := passI_len b L
        refine Ev.succ ?_
        simp only [laws_FnClear.j1]
        refine Ev.neg (by decide) (Ev.bindc (implPass b L) (Ev.bind (specPass b L (by omega) (by omega)) (Ev.bind (wnTexts_self (passI b L) (by omega)) (Ev.pos rfl ?_))))
        rcases clear_pass (L := L) hc with e | e
        · rw [e]
          by_cases hL : L.length = 0
          · obtain rfl := List.eq_nil_of_length_eq_zero hL
            exact Ev.bind (wnTexts_self [] (by simp)) (Ev.pos rfl (Ev.now _))
          · exact Ev.bind (wnTexts_no [] L (by simp; omega)) (Ev.neg Bool.false_ne_true (Ev.eq (Ev.now _) (by decide)))
        · rw [e]
          exact Ev.bind (wnTexts_self L (by omega)) (Ev.pos rfl (Ev.now _))
end Go.Proofs.Ytcgajgmcjgoipaa.Pure
