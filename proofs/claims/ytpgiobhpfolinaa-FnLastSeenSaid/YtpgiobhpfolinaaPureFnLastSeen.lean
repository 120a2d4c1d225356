/- For all bytes drawn from the law FnLastSeen answers true: the program's RunBridge is the reference's, and a station is where its last frame came from. No condition. -/
import Derived.Test.YtpgiobhpfolinaaPAllx0
import Derived.Test.YtpgiobhpfolinaaPAllx20
import Derived.Test.YtpgiobhpfolinaaRun
namespace Go.Proofs.Ytpgiobhpfolinaa.Pure
open Go.RowKit Go.Proofs.Ytpgiobhpfolinaa.PAll Go.Proofs.YtpgiobhpfolinaaW.PrintWords Go.Proofs.YtpgiobhpfolinaaW.PrintLast Go.Proofs.YtpgiobhpfolinaaW.PrintMore Go.Proofs.Ytpgiobhpfolinaa.Base

theorem FnLastSeen_in (r : List S42) (T : List Int) (_hT : T.length = 15) (hl : r.length ≤ 60) (i : Nat) (hi : i < 15) (e : rd T (i : Int) = lastN r (i : Int) r.length) (nx : Ev (fun k => laws_FnLastSeen.l0 k r T 15 ((i + 1 : Nat) : Int)) true) (d : Nat) : ∀ j : Nat, j + d = r.length → Ev (fun k => laws_FnLastSeen.l1 k r (i : Int) (rd T (i : Int)) (lastN r (i : Int) j) T 15 (i : Int) r (r.length : Int) (j : Int)) true := by
  induction d with
  | zero =>
    intro j hj
    obtain rfl : j = r.length := by omega
    refine Ev.succ ?_
    simp only [laws_FnLastSeen.l1]
    rw [succ_i i (by omega)]
    exact Ev.neg (by omega) (Ev.pos e nx)
  | succ d ih =>
    intro j hj
    have h2 := ih (j + 1) (by omega)
    simp only [lastN] at h2
    refine Ev.succ ?_
    simp only [laws_FnLastSeen.l1]
    rw [succ_i j (by omega)]
    refine Ev.pos (by omega) (Ev.pos (by omega) (Ev.pos (by omega) ?_))
    by_cases c : (rd_T42 r (j : Int)).f0 = (i : Int)
    · rw [if_pos c] at h2
      exact Ev.pos c h2
    · rw [if_neg c] at h2
      exact Ev.neg c h2
theorem FnLastSeen_loop (r : List S42) (T : List Int) (hT : T.length = 15) (hl : r.length ≤ 60) (e : ∀ s : Nat, s < 15 → rd T (s : Int) = lastN r (s : Int) r.length) (d : Nat) : ∀ i : Nat, i + d = 15 → Ev (fun k => laws_FnLastSeen.l0 k r T 15 (i : Int)) true := by
  induction d with
  | zero =>
    intro i hi
    refine Ev.succ ?_
    simp only [laws_FnLastSeen.l0]
    exact Ev.neg (by omega) (Ev.now _)
  | succ d ih =>
    intro i hi
    refine Ev.succ ?_
    simp only [laws_FnLastSeen.l0]
    exact Ev.pos (by omega) (Ev.pos (by omega) (Ev.pos (by omega) (FnLastSeen_in r T hT hl i (by omega) (e i (by omega)) (ih (i + 1) (by omega)) r.length 0 (by omega))))
theorem FnLastSeen : laws_FnLastSeen.Pure := by
  intro l h1 h2 h3
  refine Ev.rounds ?_
  unfold laws_FnLastSeen.f
  by_cases h : (l.length : Int) > 1048576
  · exact Ev.pos h (Ev.now _)
  · obtain ⟨p, r, hr, hd⟩ := drawRun_ev l (wf_bytes h3)
    have hz := runI_size p r
    refine Ev.neg h (Ev.bind hd (Ev.bind (implRun p r) (Ev.bind (specRun p r) (Ev.neg (by simp) (Ev.bind (wnInts_self (runI p r).1 (by omega)) (Ev.pos rfl ?_))))))
    by_cases hok : (runI p r).2.2 = true
    · by_cases hc : (1 ≤ p ∧ p ≤ 6) ∧ r.length ≤ 60
      · rw [hok]
        rw [runI_yes hc] at hok ⊢
        have hL := run_last hok
        refine Ev.succ ?_
        simp only [laws_FnLastSeen.j0]
        rw [hL.1]
        exact Ev.neg (by simp) (FnLastSeen_loop r _ hL.1 (by omega) hL.2 15 0 (by omega))
      · rw [runI_no hc] at hok
        cases hok
    · refine Ev.succ ?_
      simp only [laws_FnLastSeen.j0]
      exact Ev.pos (by simpa using hok) (Ev.pos (by simp) (Ev.bind (wnInts_self (runI p r).1 (by omega)) (Ev.now _)))
end Go.Proofs.Ytpgiobhpfolinaa.Pure
