/- For all bytes drawn from the law FnNotBack answers true: the program's PortsFor is the reference's, never names the port that the message came from, and has the right number of ports. No condition. -/
import Derived.Test.YtpgiobhpfolinaaPAllx21
import Derived.Test.YtpgiobhpfolinaaPAllx22
import Derived.Test.YtpgiobhpfolinaaBridgeD
namespace Go.Proofs.Ytpgiobhpfolinaa.Pure
open Go.RowKit Go.Proofs.Ytpgiobhpfolinaa.PAll Go.Proofs.YtpgiobhpfolinaaW.PrintWords Go.Proofs.YtpgiobhpfolinaaW.PrintLast Go.Proofs.YtpgiobhpfolinaaW.PrintMore Go.Proofs.Ytpgiobhpfolinaa.Base

theorem FnNotBack_j (b : List Int) (n d p : Int) (hn : 0 ≤ n ∧ n ≤ 7) : (portsP b n d p → Ev (fun k => laws_FnNotBack.j1 k b n d (portsI b n d p) false) true) ∧ (¬ portsP b n d p → Ev (fun k => laws_FnNotBack.j1 k b n d (portsI b n d p) true) true) := by
  constructor
  · intro h
    have hb := h.1.2.1
    have hd := h.2.1
    have hp := h.2.2
    have hn := h.1.1
    have hw : wrap64 (n - 1) = n - 1 := w64 (by omega) (by omega)
    have all : wayI b d < 0 → ((portsI b n d p).length : Int) = n - 1 := by
      intro hx
      rw [portsI_yes h, portsN_all p _ hx, if_pos (by omega)]
      omega
    have one : ¬ wayI b d < 0 → ((portsI b n d p).length : Int) ≤ 1 := by
      intro hx
      rw [portsI_yes h, portsN_one p _ (by omega)]
      split <;> simp
    refine Ev.succ ?_
    simp only [laws_FnNotBack.j1]
    refine Ev.neg Bool.false_ne_true ?_
    rw [hw]
    unfold wayI at all one
    by_cases h15 : d = 15
    · rw [if_neg (by omega)] at all
      exact Ev.pos h15 (Ev.eq (Ev.now _) (by rw [all (by omega)]; simp))
    · rw [if_pos (by omega)] at all one
      refine Ev.neg h15 (Ev.pos hd.1 (Ev.pos (by omega) ?_))
      by_cases hx : rd b d < 0
      · exact Ev.pos hx (Ev.eq (Ev.now _) (by rw [all hx]; simp))
      · exact Ev.neg hx (Ev.eq (Ev.now _) (decide_eq_true (one hx)))
  · intro h
    refine Ev.succ ?_
    simp only [laws_FnNotBack.j1]
    exact Ev.pos trivial (Ev.eq (Ev.now _) (by rw [portsI_no h]; rfl))
theorem FnNotBack_loop (b : List Int) (n d p : Int) (hn : 0 ≤ n ∧ n ≤ 7) (m : Nat) (P : List Int) (hP : P = portsI b n d p) (hm : P.length = m) (e : Nat) : ∀ i : Nat, i + e = m → Ev (fun k => laws_FnNotBack.l0 k b n d p P P (m : Int) (i : Int)) true := by
  have hlen := portsI_len b n d p
  have hm6 : m ≤ 6 := by rw [← hm, hP]; exact hlen
  induction e with
  | zero =>
    intro i hi
    obtain rfl : i = m := by omega
    refine Ev.succ ?_
    simp only [laws_FnNotBack.l0]
    refine Ev.neg (by omega) (Ev.bindc (implTV b n) ?_)
    rw [hP]
    have hj := FnNotBack_j b n d p hn
    by_cases ht : TVp b n
    · refine Ev.pos (decide_eq_true ht) ?_
      by_cases d0 : d < 0
      · exact Ev.pos d0 (hj.2 (fun x => by have := x.2.1; omega))
      · refine Ev.neg d0 ?_
        by_cases d1 : d > 15
        · exact Ev.pos d1 (hj.2 (fun x => by have := x.2.1; omega))
        · refine Ev.neg d1 ?_
          by_cases p0 : p < 0
          · exact Ev.pos p0 (hj.2 (fun x => by have := x.2.2; omega))
          · refine Ev.neg p0 ?_
            by_cases p1 : p ≥ n
            · rw [decide_eq_true p1]
              exact hj.2 (fun x => by have := x.2.2; omega)
            · rw [decide_eq_false p1]
              exact hj.1 ⟨ht, by omega, by omega⟩
    · exact Ev.neg (by rw [TV_no ht]; exact Bool.false_ne_true) (hj.2 (fun x => ht x.1))
  | succ e ih =>
    intro i hi
    have h2 := ih (i + 1) (by omega)
    have hin : i < P.length := by omega
    have hp : portsP b n d p := by
      refine Decidable.byContradiction (fun x => ?_)
      rw [hP, portsI_no x] at hin
      simp at hin
    have hN : P = portsN p (wayI b d) n.toNat := by rw [hP, portsI_yes hp]
    have hy := portsN_mem p (wayI b d) n.toNat (rd P (i : Int)) (by rw [← hN, rd_get P i hin]; exact List.getElem_mem _)
    have hnn := hp.1.1
    refine Ev.succ ?_
    simp only [laws_FnNotBack.l0]
    rw [succ_i i (by omega)]
    refine Ev.pos (by omega) (Ev.pos (by omega) (Ev.pos (by omega) (Ev.neg hy.1 (Ev.neg (by omega) (Ev.neg (by omega) ?_)))))
    by_cases h0 : (i : Int) > 0
    · obtain ⟨j, rfl⟩ : ∃ j, i = j + 1 := ⟨i - 1, by omega⟩
      have e1 : wrap64 (((j + 1 : Nat) : Int) - 1) = (j : Int) := by rw [w64 (by omega) (by omega)]; omega
      rw [e1]
      refine Ev.pos h0 (Ev.pos (by omega) (Ev.pos (by omega) (Ev.neg ?_ h2)))
      have up := portsN_up p (wayI b d) n.toNat
      rw [← hN] at up
      have := (List.pairwise_iff_getElem.1 up) j (j + 1) (by omega) hin (by omega)
      rw [rd_get P j (by omega), rd_get P (j + 1) hin]
      omega
    · exact Ev.neg h0 h2
theorem FnNotBack : laws_FnNotBack.Pure := by
  intro l h1 h2 h3
  refine Ev.rounds ?_
  unfold laws_FnNotBack.f
  by_cases h : (l.length : Int) > 1048576
  · exact Ev.pos h (Ev.now _)
  · obtain ⟨s, q, b, n, a, d, p, q', g1, g2, g3, g4, g5⟩ := both_ev l (wf_bytes h3)
    have hd : Ev (fun k => spec_DrawPortsFor.f k l) (b, n, d, p) := by
      unfold spec_DrawPortsFor.f
      exact Ev.bindc g3 (Ev.bind g4 (Ev.bind g5 (Ev.now _)))
    have hlen := portsI_len b n d p
    exact Ev.neg h (Ev.bind hd (Ev.bind (implPorts b n d p) (Ev.bind (specPorts b n d p) (Ev.bind (wnInts_self (portsI b n d p) (by omega)) (Ev.pos rfl (FnNotBack_loop b n d p g2 _ _ rfl rfl (portsI b n d p).length 0 (by omega)))))))
end Go.Proofs.Ytpgiobhpfolinaa.Pure
