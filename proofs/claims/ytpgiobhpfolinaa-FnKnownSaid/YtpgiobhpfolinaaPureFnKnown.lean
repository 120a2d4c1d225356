/- For all bytes drawn from the law FnKnown answers true: the program's KnownStations is the reference's, a fresh bridge knows no station, and a bridge knows one more for each frame at most. No condition. -/
import Derived.Test.YtpgiobhpfolinaaPAllx6
import Derived.Test.YtpgiobhpfolinaaPAllx9
import Derived.Test.YtpgiobhpfolinaaPAllx10
import Derived.Test.YtpgiobhpfolinaaPAllx14
import Derived.Test.YtpgiobhpfolinaaPAllx15
import Derived.Test.YtpgiobhpfolinaaRun
namespace Go.Proofs.Ytpgiobhpfolinaa.Pure
open Go.RowKit Go.Proofs.Ytpgiobhpfolinaa.PAll Go.Proofs.YtpgiobhpfolinaaW.PrintWords Go.Proofs.YtpgiobhpfolinaaW.PrintLast Go.Proofs.YtpgiobhpfolinaaW.PrintMore Go.Proofs.Ytpgiobhpfolinaa.Base

theorem FnKnown_loop (l : List Int) (b : List Int) (K : List Int) (hbl : b.length = 15 ∨ K = []) (hK : ∀ x ∈ K, 0 ≤ x ∧ x < 15 ∧ rd b x ≥ 0) (hl : K.length ≤ 15) (r : Ev (fun k => (spec_DrawRunBridge.f k l).bind fun bt => ((impl_RunBridge.f k bt.1 bt.2).bind fun bu => (if bu.2.2 = true then ((impl_KnownStations.f k bu.1 bt.1).bind fun t => (some (decide ((t.length : Int) ≤ (bt.2.length : Int))))) else (some true)))) true) (d : Nat) : ∀ i : Nat, i + d = K.length → Ev (fun k => laws_FnKnown.l0 k l b K (K.length : Int) (i : Int)) true := by
  induction d with
  | zero =>
    intro i hi
    refine Ev.succ ?_
    simp only [laws_FnKnown.l0]
    exact Ev.neg (by omega) r
  | succ d ih =>
    intro i hi
    have hm := hK (rd K (i : Int)) (by rw [rd_get K i (by omega)]; exact List.getElem_mem _)
    have hb : b.length = 15 := by
      rcases hbl with h | h
      · exact h
      · rw [h] at hi
        simp at hi
    refine Ev.succ ?_
    simp only [laws_FnKnown.l0]
    rw [succ_i i (by omega)]
    exact Ev.pos (by omega) (Ev.pos (by omega) (Ev.pos (by omega) (Ev.pos hm.1 (Ev.pos (by omega) (Ev.neg (by omega) (ih (i + 1) (by omega)))))))
theorem FnKnown : laws_FnKnown.Pure := by
  intro l m h1 h2 h3 k1 k2 k3
  refine Ev.rounds ?_
  unfold laws_FnKnown.f
  have hb := wf_bytes h3
  have kb := wf_bytes k3
  have out : Ev (fun k => laws_FnKnown.j0 k l m true) true := by
    refine Ev.succ ?_
    simp only [laws_FnKnown.j0]
    exact Ev.pos trivial (Ev.now _)
  by_cases h : (l.length : Int) > 1048576
  · exact Ev.pos h out
  · refine Ev.neg h ?_
    by_cases k : (m.length : Int) > 1048576
    · rw [decide_eq_true k]
      exact out
    · rw [decide_eq_false k]
      obtain ⟨s, q, b, n, _, _, _, _, _, _, g3, g4, _⟩ := both_ev l hb
      have hd : Ev (fun k => spec_DrawKnownStations.f k l) (b, n) := by
        unfold spec_DrawKnownStations.f
        exact Ev.bindc g3 (Ev.bind g4 (Ev.now _))
      obtain ⟨p, r, hr, hdr⟩ := drawRun_ev m kb
      have hkl := knownI_len b n
      have last : Ev (fun k => (spec_DrawRunBridge.f k m).bind fun bt => ((impl_RunBridge.f k bt.1 bt.2).bind fun bu => (if bu.2.2 = true then ((impl_KnownStations.f k bu.1 bt.1).bind fun t => (some (decide ((t.length : Int) ≤ (bt.2.length : Int))))) else (some true)))) true := by
        refine Ev.bind hdr (Ev.bind (implRun p r) ?_)
        by_cases hok : (runI p r).2.2 = true
        · refine Ev.pos hok (Ev.bind (implKnown _ _) (Ev.eq (Ev.now _) (decide_eq_true ?_)))
          by_cases hc : (1 ≤ p ∧ p ≤ 6) ∧ r.length ≤ 60
          · rw [runI_yes hc] at hok ⊢
            have h5 := run_known hok
            show ((knownI (runN p r r.length).1 p).length : Int) ≤ (r.length : Int)
            unfold knownI
            split
            · omega
            · simp
          · rw [runI_no hc] at hok
            cases hok
        · exact Ev.neg hok (Ev.now _)
      have hko : knownI fresh 1 = [] := by
        unfold knownI
        rw [knownN_fresh 15 (Nat.le_refl _)]
        split <;> rfl
      refine Ev.succ ?_
      simp only [laws_FnKnown.j0]
      refine Ev.neg Bool.false_ne_true (Ev.bind hd (Ev.bind (implKnown b n) (Ev.bind (specKnown b n) (Ev.bind (wnInts_self _ (by omega)) (Ev.pos rfl (Ev.bindc (implTV b n) (Ev.bind (specTV b n) ?_)))))))
      rw [bne_self_eq_false]
      refine Ev.succ ?_
      simp only [laws_FnKnown.j1]
      refine Ev.neg Bool.false_ne_true (Ev.bindc implFresh (Ev.bind specFresh (Ev.bind (wnInts_self fresh (by decide)) (Ev.pos rfl (Ev.bind (implKnown fresh 1) ?_)))))
      rw [hko]
      refine Ev.succ ?_
      simp only [laws_FnKnown.j2]
      refine Ev.neg (by simp) (FnKnown_loop m b (knownI b n) ?_ ?_ hkl last (knownI b n).length 0 (by omega))
      · by_cases ht : TVp b n
        · exact .inl ht.2.1
        · exact .inr (if_neg ht)
      · intro x hx
        unfold knownI at hx
        split at hx
        · exact knownN_mem b 15 x hx
        · cases hx
end Go.Proofs.Ytpgiobhpfolinaa.Pure
