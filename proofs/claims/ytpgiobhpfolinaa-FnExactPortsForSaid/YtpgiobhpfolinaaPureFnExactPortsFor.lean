/- For every table, port count, destination and port the law FnExactPortsFor answers true: the program's PortsFor is the reference's, its answer a slice of its own. No condition. -/
import Derived.Test.YtpgiobhpfolinaaPAllx14
import Derived.Test.YtpgiobhpfolinaaBridge
namespace Go.Proofs.Ytpgiobhpfolinaa.Pure
open Go.RowKit Go.Proofs.Ytpgiobhpfolinaa.PAll Go.Proofs.YtpgiobhpfolinaaW.PrintWords Go.Proofs.YtpgiobhpfolinaaW.PrintLast Go.Proofs.YtpgiobhpfolinaaW.PrintMore Go.Proofs.Ytpgiobhpfolinaa.Base

theorem FnExactPortsFor : laws_FnExactPortsFor.Pure := by
  intro l n d p h1 h2 h3 hn hd hp
  refine Ev.rounds ?_
  unfold laws_FnExactPortsFor.f
  by_cases h : (l.length : Int) > 1048576
  · exact Ev.pos h (Ev.now _)
  · have hl : l.length ≤ 1048576 := by omega
    have hb := portsI_len l n d p
    have hj : Ev (fun k => laws_FnExactPortsFor.j0 k l n d p (portsI l n d p) (portsI l n d p) false) true := by
      refine Ev.succ ?_
      simp only [laws_FnExactPortsFor.j0]
      exact Ev.neg Bool.false_ne_true (Ev.bind (markIntS_ev (portsI l n d p) 1 (by omega)) (Ev.bind (heldIntS_ev 1 (portsI l n d p).length (by omega)) (Ev.neg (by omega) (Ev.pos rfl (Ev.bind (toIntS_ev l hl) (Ev.bind (implPorts l n d p) (Ev.bind (eqIntS_self (portsI l n d p) (by omega)) (Ev.pos rfl (Ev.bind (heldIntS_ev 1 (portsI l n d p).length (by omega)) (Ev.neg (by omega) (Ev.pos rfl (Ev.now _))))))))))))
    exact Ev.neg h (Ev.bind (toIntS_ev l hl) (Ev.bind (specPorts l n d p) (Ev.bind (toIntS_ev l hl) (Ev.bind (implPorts l n d p) (Ev.bind (eqIntS_self (portsI l n d p) (by omega)) (Ev.pos rfl (Ev.bind (toIntS_ev l hl) (Ev.bind (eqIntS_self l (by omega)) (Ev.pos rfl (Ev.bind (markIntS_ev l 1 (by omega)) (Ev.neg (by show ¬ ((1 + l.length : Nat) : Int) < 0; omega) (Ev.bind (eqIntS_self (portsI l n d p) (by omega)) hj))))))))))))
end Go.Proofs.Ytpgiobhpfolinaa.Pure
