/- For all bytes drawn from the law FnRunBridge answers true: the program's RunBridge is the reference's, and it does with each frame what BridgeStep does by the table of the frames before. No condition. -/
import Derived.Test.YtpgiobhpfolinaaPAllx0
import Derived.Test.YtpgiobhpfolinaaPAllx7
import Derived.Test.YtpgiobhpfolinaaPAllx14
import Derived.Test.YtpgiobhpfolinaaRun
namespace Go.Proofs.Ytpgiobhpfolinaa.Pure
open Go.RowKit Go.Proofs.Ytpgiobhpfolinaa.PAll Go.Proofs.YtpgiobhpfolinaaW.PrintWords Go.Proofs.YtpgiobhpfolinaaW.PrintLast Go.Proofs.YtpgiobhpfolinaaW.PrintMore Go.Proofs.Ytpgiobhpfolinaa.Base

theorem FnRunBridge_loop (p : Int) (r : List S42) (hc : (1 ≤ p ∧ p ≤ 6) ∧ r.length ≤ 60) (hok : (runN p r r.length).2.2 = true) (d : Nat) : ∀ i : Nat, i + d = r.length → Ev (fun k => laws_FnRunBridge.l0 k p r (runN p r r.length).2.1 r (r.length : Int) (i : Int)) true := by
  have hl := runN_len hok
  have run : ∀ i, i ≤ r.length → Ev (fun k => impl_RunBridge.f k p (r.take i)) (runN p r i) := by
    intro i hi
    have h := implRun p (r.take i)
    have e : (r.take i).length = i := by rw [List.length_take]; omega
    rw [runI_yes ⟨hc.1, by omega⟩, e, runN_take p r i i (Nat.le_refl _)] at h
    exact h
  induction d with
  | zero =>
    intro i hi
    refine Ev.succ ?_
    simp only [laws_FnRunBridge.l0]
    exact Ev.neg (by omega) (Ev.eq (Ev.now _) (by rw [hl]; simp))
  | succ d ih =>
    intro i hi
    have o1 := runN_ok hok i (by omega)
    have o2 := runN_ok hok (i + 1) (by omega)
    have hb := runN_back o2
    have hy := runN_yes hb
    have ho := runN_out hok i (by omega)
    have hst := stepI_len (runN p r i).1 p (rd_T42 r (i : Int)).f0 (rd_T42 r (i : Int)).f1 (rd_T42 r (i : Int)).f2
    have e1 : (runN p r (i + 1)).1 = (nextI (runN p r i).1 p (rd_T42 r (i : Int))).1 := by rw [hy]
    refine Ev.succ ?_
    simp only [laws_FnRunBridge.l0]
    rw [succ_i i (by omega), Int.toNat_natCast, Int.toNat_natCast, ho]
    refine Ev.pos (by omega) (Ev.pos (by omega) (Ev.pos (by omega) (Ev.pos (by omega) (Ev.bind (run i (by omega)) (Ev.bind (implStep _ _ _ _ _) (Ev.pos (by omega) (Ev.pos (by omega) (Ev.bind (run (i + 1) (by omega)) ?_))))))))
    refine Ev.pos o1 (Ev.pos hb.2 (Ev.pos o2 (Ev.pos (by omega) (Ev.bind (wnInts_self (nextI (runN p r i).1 p (rd_T42 r (i : Int))).2.1 (by have := hst.2; exact Nat.le_trans this (by omega))) (Ev.pos rfl ?_)))))
    rw [e1]
    exact Ev.bind (wnInts_self (nextI (runN p r i).1 p (rd_T42 r (i : Int))).1 (by have := hst.1; exact Nat.le_trans this (by omega))) (Ev.pos rfl (ih (i + 1) (by omega)))
theorem FnRunBridge : laws_FnRunBridge.Pure := by
  intro l h1 h2 h3
  refine Ev.rounds ?_
  unfold laws_FnRunBridge.f
  by_cases h : (l.length : Int) > 1048576
  · exact Ev.pos h (Ev.now _)
  · obtain ⟨p, r, hr, hd⟩ := drawRun_ev l (wf_bytes h3)
    have hz := runI_size p r
    have hp := wnPairs_self (runI p r).2.1 (by omega) (fun x hx => by have := hz.2.1 x hx; omega)
    refine Ev.neg h (Ev.bind hd (Ev.bind (implRun p r) (Ev.bind (specRun p r) (Ev.neg (by simp) (Ev.bind (wnInts_self (runI p r).1 (by omega)) (Ev.pos rfl (Ev.bind hp (Ev.pos rfl ?_))))))))
    by_cases hok : (runI p r).2.2 = true
    · by_cases hc : (1 ≤ p ∧ p ≤ 6) ∧ r.length ≤ 60
      · rw [hok]
        rw [runI_yes hc] at hok ⊢
        refine Ev.succ ?_
        simp only [laws_FnRunBridge.j0]
        exact Ev.neg (by simp) (FnRunBridge_loop p r hc hok r.length 0 (by omega))
      · rw [runI_no hc] at hok
        cases hok
    · refine Ev.succ ?_
      simp only [laws_FnRunBridge.j0]
      exact Ev.pos (by simpa using hok) (Ev.pos (by simp) (Ev.bind (wnInts_self (runI p r).1 (by omega)) (Ev.pos rfl (Ev.bind hp (Ev.now _)))))
end Go.Proofs.Ytpgiobhpfolinaa.Pure
