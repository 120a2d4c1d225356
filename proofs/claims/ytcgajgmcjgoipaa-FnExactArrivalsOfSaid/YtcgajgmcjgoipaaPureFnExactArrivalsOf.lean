/- For all fates and every count the law FnExactArrivalsOf answers true: the program's ArrivalsOf is the reference's, its answer is a slice of its own. No condition. -/
import Derived.Test.YtcgajgmcjgoipaaPAllx7
import Derived.Test.YtcgajgmcjgoipaaWireC
namespace Go.Proofs.Ytcgajgmcjgoipaa.Pure
open Go.RowKit Go.Proofs.Ytcgajgmcjgoipaa.PAll Go.Proofs.YtcgajgmcjgoipaaW.PrintWords Go.Proofs.YtcgajgmcjgoipaaW.PrintLast Go.Proofs.YtcgajgmcjgoipaaW.PrintMore Go.Proofs.Ytcgajgmcjgoipaa.Base

theorem FnExactArrivalsOf : laws_FnExactArrivalsOf.Pure := by
  intro l i h1 h2 h3 hi
  refine Ev.rounds ?_
  unfold laws_FnExactArrivalsOf.f
  by_cases h : (l.length : Int) > 1048576
  · exact Ev.pos h (Ev.now _)
  · have hl : l.length ≤ 1048576 := by omega
    have hb := arrI_len l i
    have hj : Ev (fun k => laws_FnExactArrivalsOf.j0 k l i (arrI l i) (arrI l i) false) true := by
      refine Ev.succ ?_
      simp only [laws_FnExactArrivalsOf.j0]
      exact Ev.neg Bool.false_ne_true (Ev.bind (markIntS_ev (arrI l i) 1 (by omega)) (Ev.bind (heldIntS_ev 1 (arrI l i).length (by omega)) (Ev.neg (by omega) (Ev.pos rfl (Ev.bind (toIntS_ev l hl) (Ev.bindc (implArr l i) (Ev.bind (eqIntS_self (arrI l i) (by omega)) (Ev.pos rfl (Ev.bind (heldIntS_ev 1 (arrI l i).length (by omega)) (Ev.neg (by omega) (Ev.pos rfl (Ev.now _))))))))))))
    exact Ev.neg h (Ev.bind (toIntS_ev l hl) (Ev.bind (specArr l i (by omega)) (Ev.bind (toIntS_ev l hl) (Ev.bindc (implArr l i) (Ev.bind (eqIntS_self (arrI l i) (by omega)) (Ev.pos rfl (Ev.bind (toIntS_ev l hl) (Ev.bind (eqIntS_self l (by omega)) (Ev.pos rfl (Ev.bind (markIntS_ev l 1 (by omega)) (Ev.neg (by show ¬ ((1 + l.length : Nat) : Int) < 0; omega) (Ev.bind (eqIntS_self (arrI l i) (by omega)) hj))))))))))))
end Go.Proofs.Ytcgajgmcjgoipaa.Pure
