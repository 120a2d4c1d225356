/- For all bytes drawn from the law FnBridgeStep answers true: the program's BridgeStep is the reference's, and the answer to a hop finds its way back. No condition. -/
import Derived.Test.YtpgiobhpfolinaaPAllx23
import Derived.Test.YtpgiobhpfolinaaPAllx24
import Derived.Test.YtpgiobhpfolinaaBridgeD
namespace Go.Proofs.Ytpgiobhpfolinaa.Pure
open Go.RowKit Go.Proofs.Ytpgiobhpfolinaa.PAll Go.Proofs.YtpgiobhpfolinaaW.PrintWords Go.Proofs.YtpgiobhpfolinaaW.PrintLast Go.Proofs.YtpgiobhpfolinaaW.PrintMore Go.Proofs.Ytpgiobhpfolinaa.Base

theorem FnBridgeStep_loop (b : List Int) (n s d p : Int) (h : learnP b n s p) (hd : 0 ≤ d ∧ d ≤ 15) (m : Nat) (hm : n = (m : Int)) (e : Nat) : ∀ i : Nat, i + e = m → Ev (fun k => laws_FnBridgeStep.l0 k n (b.set s.toNat p) n (i : Int) s d p) true := by
  have hl := h.1.2.1
  have hs := h.2.1
  have hp := h.2.2
  have hn := h.1.1
  have hL : (b.set s.toNat p).length = 15 := by rw [List.length_set, hl]
  have ht := learn_TV h
  have hr : rd (b.set s.toNat p) s = p := rd_set_self b s p (by omega) (by omega)
  induction e with
  | zero =>
    intro i hi
    refine Ev.succ ?_
    simp only [laws_FnBridgeStep.l0]
    exact Ev.neg (by omega) (Ev.pos hs.1 (Ev.pos (by omega) (Ev.eq (Ev.now _) (by rw [hr]; simp))))
  | succ e ih =>
    intro i hi
    have h2 := ih (i + 1) (by omega)
    have skip : ∀ P o, Ev (fun k => laws_FnBridgeStep.j2 k n (b.set s.toNat p) (i : Int) P o n (i : Int) true s d p) true := by
      intro P o
      refine Ev.succ ?_
      simp only [laws_FnBridgeStep.j2]
      rw [succ_i i (by omega)]
      exact Ev.pos trivial h2
    refine Ev.succ ?_
    simp only [laws_FnBridgeStep.l0]
    refine Ev.pos (by omega) (Ev.bind (implStep _ _ _ _ _) ?_)
    by_cases h15 : d = 15
    · exact Ev.pos h15 (skip _ _)
    · refine Ev.neg h15 ?_
      by_cases hds : d = s
      · have e1 : (d == s) = true := by simpa using hds
        rw [e1]
        exact skip _ _
      · have e1 : (d == s) = false := by simpa using hds
        have hq : learnP (b.set s.toNat p) n d (i : Int) := ⟨ht, by omega, by omega⟩
        have e2 : stepI (b.set s.toNat p) n d s (i : Int) = ((b.set s.toNat p).set d.toNat (i : Int), portsI ((b.set s.toNat p).set d.toNat (i : Int)) n s (i : Int), true) := if_pos ⟨hq, by omega⟩
        have hpp : portsP ((b.set s.toNat p).set d.toNat (i : Int)) n s (i : Int) := ⟨learn_TV hq, by omega, by omega⟩
        have e3 : wayI ((b.set s.toNat p).set d.toNat (i : Int)) s = p := by
          unfold wayI
          rw [if_pos (by omega), rd_set_ne _ d s _ (by omega) (by omega) hds, hr]
        have e4 : portsI ((b.set s.toNat p).set d.toNat (i : Int)) n s (i : Int) = if p ≠ (i : Int) then [p] else [] := by
          rw [portsI_yes hpp, e3, portsN_one _ _ hp.1]
          by_cases hx : p ≠ (i : Int)
          · rw [if_pos hx, if_pos ⟨hx, by omega⟩]
          · rw [if_neg hx, if_neg (fun x => hx x.1)]
        rw [e1, e2, e4]
        refine Ev.succ ?_
        simp only [laws_FnBridgeStep.j2]
        rw [succ_i i (by omega)]
        refine Ev.neg Bool.false_ne_true (Ev.pos trivial ?_)
        by_cases hx : (i : Int) = p
        · rw [if_neg (fun x => x hx.symm)]
          exact Ev.pos hx (Ev.pos rfl h2)
        · rw [if_pos (fun x => hx x.symm)]
          exact Ev.neg hx (Ev.pos rfl (Ev.pos (by simp) (Ev.pos rfl h2)))
theorem FnBridgeStep : laws_FnBridgeStep.Pure := by
  intro l h1 h2 h3
  refine Ev.rounds ?_
  unfold laws_FnBridgeStep.f
  by_cases h : (l.length : Int) > 1048576
  · exact Ev.pos h (Ev.now _)
  · obtain ⟨s, q, b, n, a, d, p, q', g1, g2, g3, g4, g5⟩ := both_ev l (wf_bytes h3)
    have hd : Ev (fun k => spec_DrawBridgeStep.f k l) (b, n, a, d, p) := by
      unfold spec_DrawBridgeStep.f
      exact Ev.bindc g3 (Ev.bind g4 (Ev.bind g5 (Ev.now _)))
    refine Ev.neg h (Ev.bind hd (Ev.bind (implStep b n a d p) (Ev.bind (specStep b n a d p) (Ev.neg (by simp) ?_))))
    by_cases hp : learnP b n a p ∧ (0 ≤ d ∧ d ≤ 15)
    · have e : stepI b n a d p = (b.set a.toNat p, portsI (b.set a.toNat p) n d p, true) := if_pos hp
      have hl1 : (b.set a.toNat p).length = 15 := by rw [List.length_set, hp.1.1.2.1]
      have hl2 := portsI_len (b.set a.toNat p) n d p
      obtain ⟨m, hm⟩ := Int.eq_ofNat_of_zero_le g2.1
      rw [e]
      refine Ev.bind (wnInts_self (b.set a.toNat p) (by omega)) (Ev.pos rfl (Ev.bind (wnInts_self (portsI (b.set a.toNat p) n d p) (by omega)) (Ev.pos rfl (Ev.succ ?_))))
      simp only [laws_FnBridgeStep.j0]
      exact Ev.neg (by simp) (FnBridgeStep_loop b n a d p hp.1 hp.2 m hm m 0 (by omega))
    · have e : stepI b n a d p = ([], [], false) := if_neg hp
      rw [e]
      refine Ev.bind (wnInts_self [] (by simp)) (Ev.pos rfl (Ev.bind (wnInts_self [] (by simp)) (Ev.pos rfl (Ev.succ ?_))))
      simp only [laws_FnBridgeStep.j0]
      exact Ev.pos rfl (Ev.pos rfl (Ev.bind (wnInts_self [] (by simp)) (Ev.pos rfl (Ev.bind (wnInts_self [] (by simp)) (Ev.pos rfl (Ev.now _))))))
end Go.Proofs.Ytpgiobhpfolinaa.Pure
