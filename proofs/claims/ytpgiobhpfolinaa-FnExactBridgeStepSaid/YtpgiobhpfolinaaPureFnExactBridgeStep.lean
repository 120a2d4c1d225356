/- For every table, port count and hop the law FnExactBridgeStep answers true: the program's BridgeStep is the reference's, its two answers slices of their own, and what came in is untouched. No condition. -/
import Derived.Test.YtpgiobhpfolinaaPAllx6
import Derived.Test.YtpgiobhpfolinaaPAllx10
import Derived.Test.YtpgiobhpfolinaaWalkFnExactBridgeStep
import Derived.Test.YtpgiobhpfolinaaBridge
namespace Go.Proofs.Ytpgiobhpfolinaa.Pure
open Go.RowKit Go.Proofs.Ytpgiobhpfolinaa.PAll Go.Proofs.YtpgiobhpfolinaaW.PrintWords Go.Proofs.YtpgiobhpfolinaaW.PrintLast Go.Proofs.YtpgiobhpfolinaaW.PrintMore Go.Proofs.Ytpgiobhpfolinaa.Base

theorem hop_eq (x y z : Int) : laws_toHop.f x y z = some (x, y, z) := rfl
theorem FnExactBridgeStep : laws_FnExactBridgeStep.Pure := by
  intro l n x y z h1 h2 h3 _ _ _ _
  refine Ev.rounds ?_
  unfold laws_FnExactBridgeStep.f
  by_cases h : (l.length : Int) > 1048576
  · exact Ev.pos h (Ev.now _)
  · have hl : l.length ≤ 1048576 := by omega
    have hi := implStep l n x y z
    have hs := specStep l n x y z
    have hr : (stepI l n x y z).1.length ≤ 15 ∧ (stepI l n x y z).2.1.length ≤ 6 := by
      unfold stepI
      split
      · rename_i h
        exact ⟨by show (l.set x.toNat z).length ≤ 15; rw [List.length_set, h.1.1.2.1]; omega, portsI_len _ _ _ _⟩
      · simp
    generalize stepI l n x y z = r at hi hs hr
    refine Ev.neg h (Ev.bind (toIntS_ev l hl) (Ev.bindc (hop_eq x y z) (Ev.bind hs (Ev.bind (toIntS_ev l hl) (Ev.bindc (hop_eq x y z) (Ev.bind hi (Ev.bind (eqIntS_self r.1 (by omega)) (Ev.pos rfl (Ev.bind (eqIntS_self r.2.1 (by omega)) (Ev.pos rfl ?_))))))))))
    rw [bne_self_eq_false]
    refine Ev.succ ?_
    simp only [laws_FnExactBridgeStep.j0]
    refine Ev.neg Bool.false_ne_true (Ev.bind (toIntS_ev l hl) (Ev.bind (eqIntS_self l (by omega)) (Ev.pos rfl (Ev.bind (markIntS_ev l 1 (by omega)) (Ev.neg (by show ¬ ((1 + l.length : Nat) : Int) < 0; omega) (Ev.bind (eqIntS_self r.1 (by omega)) (Ev.pos rfl (Ev.bind (eqIntS_self r.2.1 (by omega)) (Ev.pos rfl ?_)))))))))
    rw [bne_self_eq_false]
    refine Ev.succ ?_
    simp only [laws_FnExactBridgeStep.j1]
    refine Ev.neg Bool.false_ne_true (Ev.bind (markIntS_ev r.1 1 (by omega)) (Ev.bind (markIntS_ev r.2.1 (1 + r.1.length) (by omega)) (Ev.bind (heldIntS_ev 1 r.1.length (by omega)) (Ev.neg (by omega) (Ev.bind (heldIntS_ev (1 + r.1.length) r.2.1.length (by omega)) (Ev.neg (by omega) (Ev.pos rfl (Ev.bind (toIntS_ev l hl) (Ev.bindc (hop_eq x y z) (Ev.bind hi (Ev.bind (eqIntS_self r.1 (by omega)) (Ev.pos rfl (Ev.bind (eqIntS_self r.2.1 (by omega)) (Ev.pos rfl ?_)))))))))))))) 
    rw [bne_self_eq_false]
    refine Ev.succ ?_
    simp only [laws_FnExactBridgeStep.j2]
    exact Ev.neg Bool.false_ne_true (Ev.bind (heldIntS_ev 1 r.1.length (by omega)) (Ev.neg (by omega) (Ev.bind (heldIntS_ev (1 + r.1.length) r.2.1.length (by omega)) (Ev.neg (by omega) (Ev.pos rfl (Ev.now _))))))
end Go.Proofs.Ytpgiobhpfolinaa.Pure
