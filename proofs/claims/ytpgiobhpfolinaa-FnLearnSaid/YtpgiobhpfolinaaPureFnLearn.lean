/- For all bytes drawn from the law FnLearn answers true: the program's LearnPort is the reference's, changes only the station's port, and learning it again changes nothing. No condition. -/
import Derived.Test.YtpgiobhpfolinaaPAllx18
import Derived.Test.YtpgiobhpfolinaaPAllx20
import Derived.Test.YtpgiobhpfolinaaBridgeD
namespace Go.Proofs.Ytpgiobhpfolinaa.Pure
open Go.RowKit Go.Proofs.Ytpgiobhpfolinaa.PAll Go.Proofs.YtpgiobhpfolinaaW.PrintWords Go.Proofs.YtpgiobhpfolinaaW.PrintLast Go.Proofs.YtpgiobhpfolinaaW.PrintMore Go.Proofs.Ytpgiobhpfolinaa.Base

theorem FnLearn_loop (b : List Int) (n s p : Int) (h : learnP b n s p) (d : Nat) : ∀ i : Nat, i + d = 15 → Ev (fun k => laws_FnLearn.l0 k b n s p (b.set s.toNat p) (b.set s.toNat p) 15 (i : Int)) true := by
  have hl := h.1.2.1
  have hs := h.2.1
  have hL : (b.set s.toNat p).length = 15 := by rw [List.length_set, hl]
  have ht := learn_TV h
  induction d with
  | zero =>
    intro i hi
    have e : learnI (b.set s.toNat p) n s p = (b.set s.toNat p, true) := by
      rw [learnI_yes ⟨ht, h.2⟩, List.set_set]
    refine Ev.succ ?_
    simp only [laws_FnLearn.l0]
    refine Ev.neg (by omega) (Ev.bindc (implLearn _ _ _ _) ?_)
    rw [e]
    exact Ev.pos rfl (Ev.bind (wnInts_self (b.set s.toNat p) (by omega)) (Ev.pos rfl (Ev.bindc (implTV _ _) (Ev.eq (Ev.now _) (decide_eq_true ht)))))
  | succ d ih =>
    intro i hi
    have h2 := ih (i + 1) (by omega)
    refine Ev.succ ?_
    simp only [laws_FnLearn.l0]
    rw [succ_i i (by omega)]
    refine Ev.pos (by omega) (Ev.pos (by omega) (Ev.pos (by omega) ?_))
    by_cases e : (i : Int) = s
    · refine Ev.pos e (Ev.pos ?_ h2)
      rw [e]
      exact rd_set_self b s p (by omega) (by omega)
    · exact Ev.neg e (Ev.pos (by omega) (Ev.pos (rd_set_ne b s (i : Int) p (by omega) (by omega) (fun x => e x.symm)) h2))
theorem FnLearn : laws_FnLearn.Pure := by
  intro l h1 h2 h3
  refine Ev.rounds ?_
  unfold laws_FnLearn.f
  by_cases h : (l.length : Int) > 1048576
  · exact Ev.pos h (Ev.now _)
  · obtain ⟨s, q, b, n, a, d, p, q', g1, g2, g3, g4, g5⟩ := both_ev l (wf_bytes h3)
    have hd : Ev (fun k => spec_DrawLearnPort.f k l) (b, n, a, p) := by
      unfold spec_DrawLearnPort.f
      exact Ev.bindc g3 (Ev.bind g4 (Ev.bind g5 (Ev.now _)))
    have hlen := learnI_len b n a p
    have hj : Ev (fun k => laws_FnLearn.j0 k b n a p (learnI b n a p).1 (learnI b n a p).2 (learnI b n a p).1 (learnI b n a p).2 (!(learnI b n a p).2)) true := by
      refine Ev.succ ?_
      simp only [laws_FnLearn.j0]
      by_cases hp : learnP b n a p
      · rw [learnI_yes hp]
        refine Ev.neg (by simp) ?_
        have e : (b.set a.toNat p).length = 15 := by rw [List.length_set, hp.1.2.1]
        show Ev (fun k => laws_FnLearn.l0 k b n a p (b.set a.toNat p) (b.set a.toNat p) ((b.set a.toNat p).length : Int) 0) true
        rw [e]
        exact FnLearn_loop b n a p hp 15 0 (by omega)
      · rw [learnI_no hp]
        exact Ev.pos rfl (Ev.pos rfl (Ev.bind (wnInts_self [] (by simp)) (Ev.pos rfl (Ev.now _))))
    exact Ev.neg h (Ev.bind hd (Ev.bindc (implLearn b n a p) (Ev.bind (specLearn b n a p) (Ev.neg (by simp) (Ev.bind (wnInts_self (learnI b n a p).1 (by omega)) (Ev.pos rfl hj))))))
end Go.Proofs.Ytpgiobhpfolinaa.Pure
