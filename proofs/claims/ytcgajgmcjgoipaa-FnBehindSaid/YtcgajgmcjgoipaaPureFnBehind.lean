/- For all bytes drawn from the law FnBehind answers true: the fates behind the first n are the reference's, and the fate of message i among them is that of message n + i. No condition. -/
import Derived.Test.YtcgajgmcjgoipaaPAllx16
import Derived.Test.YtcgajgmcjgoipaaPAllx17
import Derived.Test.YtcgajgmcjgoipaaWireA
namespace Go.Proofs.Ytcgajgmcjgoipaa.Pure
open Go.RowKit Go.Proofs.Ytcgajgmcjgoipaa.PAll Go.Proofs.YtcgajgmcjgoipaaW.PrintWords Go.Proofs.YtcgajgmcjgoipaaW.PrintLast Go.Proofs.YtcgajgmcjgoipaaW.PrintMore Go.Proofs.Ytcgajgmcjgoipaa.Base

theorem FV_drop {l : List Int} (h : FV l = true) (n : Nat) : FV (l.drop n) = true := by
  unfold FV
  have h1 := FV_len h
  rw [Bool.and_eq_true_iff]
  refine ⟨decide_eq_true (by rw [List.length_drop]; omega), List.all_eq_true.2 fun x hx => ?_⟩
  exact decide_eq_true (FV_range h x (List.mem_of_mem_drop hx))
theorem fate_behind (l : List Int) (n i : Int) (h : FV l = true) (hn : 0 ≤ n) (hi : 0 ≤ i) : fateOfI (behindI l n) i = fateOfI l (n + i) := by
  unfold behindI
  rw [if_pos ⟨h, hn⟩]
  unfold fateOfI
  rw [if_pos ⟨FV_drop h _, hi⟩, if_pos ⟨h, by omega⟩]
  unfold fateI
  obtain ⟨a, rfl⟩ := Int.eq_ofNat_of_zero_le hn
  obtain ⟨b, rfl⟩ := Int.eq_ofNat_of_zero_le hi
  rw [List.length_drop]
  unfold mn
  by_cases hc : (a : Int) + (b : Int) < (l.length : Int)
  · rw [if_neg (show ¬ ((l.length : Int) < (a : Int)) by omega)]
    rw [Int.toNat_natCast, if_pos (by omega), if_pos hc, rd_nat, show (a : Int) + (b : Int) = ((a + b : Nat) : Int) by omega, rd_nat]
    simp [List.getD_eq_getElem?_getD, List.getElem?_drop]
  · rw [if_neg hc, if_neg]
    split <;> omega
theorem behind_loop (l : List Int) (n : Int) (h : FV l = true) (hn : 0 ≤ n ∧ n ≤ 1000) (d : Nat) : ∀ i : Nat, i + d = 40 → Ev (fun k => laws_FnBehind.l0 k l n (behindI l n) (i : Int)) true := by
  induction d with
  | zero =>
    intro i hi
    refine Ev.succ ?_
    simp only [laws_FnBehind.l0]
    exact Ev.neg (by omega) (Ev.now _)
  | succ d ih =>
    intro i hi
    refine Ev.succ ?_
    simp only [laws_FnBehind.l0]
    rw [succ_i i (by omega), w64 (x := n + (i : Int)) (by omega) (by omega)]
    exact Ev.pos (by omega) (Ev.bindc (implFateOf _ _) (Ev.bindc (implFateOf _ _) (Ev.pos (fate_behind l n i h hn.1 (by omega)) (ih (i + 1) (by omega)))))
theorem drawFate_ev (l : List Int) (hb : Bytes l) : ∃ b n, b.length ≤ 201 ∧ -1 ≤ n ∧ n ≤ 30 ∧ Ev (fun k => spec_DrawFateOf.f k l) (b, n) := by
  obtain ⟨s, hl', hs, ho⟩ := open_eq l
  obtain ⟨b, q, h1, h2, h3, h4⟩ := bent_ev s 0 (hs hb) hl' (by omega)
  obtain ⟨y, hy0, hy⟩ := num_ev s q [0, 1, 3, 30, -1, 9] (hs hb) hl' (by omega) (by simp) (by simp)
  unfold spec_DrawFateOf.f
  exact ⟨b, y, h1, by simp at hy0; omega, by simp at hy0; omega, Ev.bindc ho (Ev.bind h4 (Ev.bind hy (Ev.now _)))⟩
theorem FnBehind : laws_FnBehind.Pure := by
  intro l h1 h2 h3
  refine Ev.rounds ?_
  unfold laws_FnBehind.f
  have hb := wf_bytes h3
  by_cases h : (l.length : Int) > 1048576
  · exact Ev.pos h (Ev.now _)
  · have hl : l.length ≤ 1048576 := by omega
    obtain ⟨b, n, g1, g2, g3, g4⟩ := drawFate_ev l hb
    have hbl : (behindI b n).length ≤ 201 := Nat.le_trans (behindI_len b n) g1
    have hd : Ev (fun k => spec_DrawFatesBehind.f k l) (b, n) := by
      unfold spec_DrawFatesBehind.f
      exact Ev.bind g4 (Ev.now _)
    have hj : Ev (fun k => laws_FnBehind.j0 k b n (behindI b n) true) true := by
      refine Ev.succ ?_
      simp only [laws_FnBehind.j0]
      exact Ev.pos trivial (Ev.bind (specBehind b n (by omega)) (Ev.bind (wnInts_self (behindI b n) (by omega)) (Ev.pos rfl (Ev.bindc (implFateOf b n) (Ev.bind (specFateOf b n (by omega)) (Ev.eq (Ev.now _) (by simp)))))))
    refine Ev.neg h (Ev.bind hd (Ev.bindc (implBehind b n (by omega)) (Ev.bind (specBehind b n (by omega)) (Ev.bind (wnInts_self (behindI b n) (by omega)) (Ev.pos rfl (Ev.bindc (implFV b) ?_))))))
    by_cases hv : FV b = true
    · refine Ev.pos hv ?_
      by_cases hn : n < 0
      · simpa only [decide_eq_true hn] using hj
      · have hf : decide (n < 0) = false := decide_eq_false hn
        simp only [hf]
        refine Ev.succ ?_
        simp only [laws_FnBehind.j0]
        exact Ev.neg Bool.false_ne_true (behind_loop b n hv (by omega) 40 0 (by omega))
    · exact Ev.neg hv hj
end Go.Proofs.Ytcgajgmcjgoipaa.Pure
