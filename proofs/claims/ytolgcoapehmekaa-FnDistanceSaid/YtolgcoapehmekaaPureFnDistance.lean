/- For all bytes drawn from the law FnDistance answers true: the program's Distance is the reference's, the same both ways, 0 just for equal data, and no longer than the way over a third. No condition. -/
import Derived.Test.YtolgcoapehmekaaPAllx21
import Derived.Test.YtolgcoapehmekaaBitsD
namespace Go.Proofs.Ytolgcoapehmekaa.Pure
open Go.RowKit Go.Proofs.Ytolgcoapehmekaa.PAll Go.Proofs.YtolgcoapehmekaaW.PrintWords Go.Proofs.YtolgcoapehmekaaW.PrintLast Go.Proofs.YtolgcoapehmekaaW.PrintMore Go.Proofs.Ytolgcoapehmekaa.Base

theorem FnDistance : laws_FnDistance.Pure := by
  intro l m h1 h2 h3 k1 k2 k3
  refine Ev.rounds ?_
  unfold laws_FnDistance.f
  have hb := wf_bytes h3
  have kb := wf_bytes k3
  have out : Ev (fun k => laws_FnDistance.j0 k l m true) true := by
    refine Ev.succ ?_
    simp only [laws_FnDistance.j0]
    exact Ev.pos trivial (Ev.now _)
  by_cases h : (l.length : Int) > 1048576
  · exact Ev.pos h out
  · refine Ev.neg h ?_
    by_cases k : (m.length : Int) > 1048576
    · rw [decide_eq_true k]
      exact out
    · rw [decide_eq_false k]
      obtain ⟨a, b, ha, hb, hd⟩ := drawDist_ev l hb
      obtain ⟨c, c2, hc, _, hd2⟩ := drawDist_ev m kb
      have fin : ∀ z, z = false → Ev (fun k => laws_FnDistance.j1 k a b c (distI a b) z) true := by
        intro z hz
        subst hz
        have r1 := distI_range a c
        have r2 := distI_range c b
        refine Ev.succ ?_
        simp only [laws_FnDistance.j1]
        refine Ev.neg Bool.false_ne_true (Ev.bind (implDist a c ha hc) (Ev.bind (implDist c b hc hb) (Ev.bind (specDist a c ha hc) (Ev.pos rfl (Ev.bind (specDist c b hc hb) (Ev.pos rfl ?_))))))
        by_cases x1 : distI a b < 0
        · exact Ev.pos x1 (Ev.now _)
        · refine Ev.neg x1 ?_
          by_cases x2 : distI a c < 0
          · exact Ev.pos x2 (Ev.now _)
          · refine Ev.neg x2 ?_
            by_cases x3 : distI c b < 0
            · exact Ev.pos x3 (Ev.now _)
            · refine Ev.neg x3 (Ev.eq (Ev.now _) ?_)
              rw [w64 (by omega) (by omega)]
              exact decide_eq_true (distI_tri a b c x1 x2 x3)
      refine Ev.succ ?_
      simp only [laws_FnDistance.j0]
      refine Ev.neg Bool.false_ne_true (Ev.bind hd (Ev.bind hd2 (Ev.bind (implDist a b ha hb) (Ev.bind (specDist a b ha hb) (Ev.pos rfl (Ev.bind (implDist b a hb ha) (Ev.pos (distI_comm b a) ?_)))))))
      by_cases e : a = b
      · refine Ev.pos ((str_eq a b ha hb).2 e) (fin _ ?_)
        subst e
        show ((distI a a == 0) != decide ((a.length : Int) ≤ 600)) = false
        rw [distI_same]
        by_cases x : a.length ≤ 600
        · rw [if_pos x, decide_eq_true (by omega)]
          rfl
        · rw [if_neg x, decide_eq_false (by omega)]
          rfl
      · refine Ev.neg (fun h => e ((str_eq a b ha hb).1 h)) (fin _ ?_)
        show ((distI a b == 0) != false) = false
        have : ¬ distI a b = 0 := fun h => e (distI_zero a b ha hb h)
        simp [this]
end Go.Proofs.Ytolgcoapehmekaa.Pure
