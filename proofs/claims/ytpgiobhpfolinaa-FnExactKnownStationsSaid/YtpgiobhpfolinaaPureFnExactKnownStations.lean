/- For every table and port count the law FnExactKnownStations answers true: the program's KnownStations is the reference's, its answer a slice of its own. No condition. -/
import Derived.Test.YtpgiobhpfolinaaPAllx8
import Derived.Test.YtpgiobhpfolinaaBridge
namespace Go.Proofs.Ytpgiobhpfolinaa.Pure
open Go.RowKit Go.Proofs.Ytpgiobhpfolinaa.PAll Go.Proofs.YtpgiobhpfolinaaW.PrintWords Go.Proofs.YtpgiobhpfolinaaW.PrintLast Go.Proofs.YtpgiobhpfolinaaW.PrintMore Go.Proofs.Ytpgiobhpfolinaa.Base

theorem FnExactKnownStations : laws_FnExactKnownStations.Pure := by
  intro l n h1 h2 h3 hn
  refine Ev.rounds ?_
  unfold laws_FnExactKnownStations.f
  by_cases h : (l.length : Int) > 1048576
  · exact Ev.pos h (Ev.now _)
  · have hl : l.length ≤ 1048576 := by omega
    have hb := knownI_len l n
    have hj : Ev (fun k => laws_FnExactKnownStations.j0 k l n (knownI l n) (knownI l n) false) true := by
      refine Ev.succ ?_
      simp only [laws_FnExactKnownStations.j0]
      exact Ev.neg Bool.false_ne_true (Ev.bind (markIntS_ev (knownI l n) 1 (by omega)) (Ev.bind (heldIntS_ev 1 (knownI l n).length (by omega)) (Ev.neg (by omega) (Ev.pos rfl (Ev.bind (toIntS_ev l hl) (Ev.bind (implKnown l n) (Ev.bind (eqIntS_self (knownI l n) (by omega)) (Ev.pos rfl (Ev.bind (heldIntS_ev 1 (knownI l n).length (by omega)) (Ev.neg (by omega) (Ev.pos rfl (Ev.now _))))))))))))
    exact Ev.neg h (Ev.bind (toIntS_ev l hl) (Ev.bind (specKnown l n) (Ev.bind (toIntS_ev l hl) (Ev.bind (implKnown l n) (Ev.bind (eqIntS_self (knownI l n) (by omega)) (Ev.pos rfl (Ev.bind (toIntS_ev l hl) (Ev.bind (eqIntS_self l (by omega)) (Ev.pos rfl (Ev.bind (markIntS_ev l 1 (by omega)) (Ev.neg (by show ¬ ((1 + l.length : Nat) : Int) < 0; omega) (Ev.bind (eqIntS_self (knownI l n) (by omega)) hj))))))))))))
end Go.Proofs.Ytpgiobhpfolinaa.Pure
