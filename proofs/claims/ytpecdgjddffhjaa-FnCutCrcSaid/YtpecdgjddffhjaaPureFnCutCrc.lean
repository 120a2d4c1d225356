/- For all bytes that the law FnCutCrc draws data of, it answers true: what is cut gets the same check again. No condition. -/
import Derived.Test.YtpecdgjddffhjaaPAllx7
import Derived.Test.YtpecdgjddffhjaaPAllx8
import Derived.Test.YtpecdgjddffhjaaChkP
namespace Go.Proofs.Ytpecdgjddffhjaa.Pure
open Go.RowKit Go.Proofs.Ytpecdgjddffhjaa.PAll Go.Proofs.YtpecdgjddffhjaaW.PrintWords Go.Proofs.YtpecdgjddffhjaaW.PrintLast Go.Proofs.YtpecdgjddffhjaaW.PrintMore Go.Proofs.Ytpecdgjddffhjaa.Base

theorem drawCut_ev (l : List Int) (hb : Bytes l) : ∃ b, Bytes b ∧ b.length ≤ 601 ∧ Ev (fun k => spec_DrawCutCrc.f k l) b := by
  obtain ⟨s, hs1, hs2, hs3⟩ := open_eq l
  have hs := hs2 hb
  obtain ⟨b, q, g1, g2, g3, g4, g5⟩ := draw_ev s 0 hs hs1 (by omega)
  have hdraw : ∀ p x, 0 ≤ p → p ≤ 100000 → ∃ b, Bytes b ∧ b.length ≤ 601 ∧ Ev (fun k => spec_DrawCutCrc.j0 k x true s p) b := by
    intro p x hp0 hp1
    obtain ⟨b, q, h1, h2, h3, h4, h5⟩ := draw_ev s p hs hs1 (by omega)
    refine ⟨b, h1, h2, Ev.succ ?_⟩
    simp only [spec_DrawCutCrc.j0]
    exact Ev.pos trivial (Ev.bind h5 (Ev.now _))
  have ha := specAdd b g1 (by omega)
  unfold spec_DrawCutCrc.f
  by_cases h6 : b.length + 2 ≤ 600
  · have e : addI b = (withCrc b, true) := by unfold addI; rw [if_pos h6]
    rw [e] at ha
    have hw := withCrc_length b
    obtain ⟨x, hx0, hx1, hx⟩ := pick_ev s q 8 hs hs1 (by omega) (by omega)
    by_cases hz : x = 0
    · obtain ⟨c, hc1, hc2, hc3⟩ := hdraw (q + 1) (withCrc b) (by omega) (by omega)
      refine ⟨c, hc1, hc2, Ev.bindc hs3 (Ev.bind g5 (Ev.bind ha (Ev.pos rfl (Ev.bind hx ?_))))⟩
      rw [show (x == 0) = true from beq_iff_eq.mpr hz]
      exact hc3
    · obtain ⟨y, hy0, hy1, hy⟩ := pick_ev s (q + 1) 3 hs hs1 (by omega) (by omega)
      by_cases hy2 : y = 0
      · obtain ⟨z, hz0, hz1, hz2⟩ := pick_ev s (q + 1 + 1) (8 * ((withCrc b).length : Int)) hs hs1 (by omega) (by omega)
        obtain ⟨n, rfl⟩ := Int.eq_ofNat_of_zero_le hz0
        refine ⟨Crc.flip (withCrc b) n, Crc.flip_bytes _ _ (withCrc_bytes b g1) (by omega), by rw [Crc.flip_length]; omega, Ev.bindc hs3 (Ev.bind g5 (Ev.bind ha (Ev.pos rfl (Ev.bind hx ?_))))⟩
        rw [show (x == 0) = false from beq_eq_false_iff_ne.mpr hz]
        refine Ev.succ ?_
        simp only [spec_DrawCutCrc.j0]
        rw [w64 (x := 8 * ((withCrc b).length : Int)) (by omega) (by omega)]
        exact Ev.neg Bool.false_ne_true (Ev.bind hy (Ev.pos hy2 (Ev.bind hz2 (Ev.bindc (specFlip _ (withCrc_bytes b g1) (by omega) n (by omega)) (Ev.now _)))))
      · refine ⟨withCrc b, withCrc_bytes b g1, by omega, Ev.bindc hs3 (Ev.bind g5 (Ev.bind ha (Ev.pos rfl (Ev.bind hx ?_))))⟩
        rw [show (x == 0) = false from beq_eq_false_iff_ne.mpr hz]
        refine Ev.succ ?_
        simp only [spec_DrawCutCrc.j0]
        exact Ev.neg Bool.false_ne_true (Ev.bind hy (Ev.neg hy2 (Ev.now _)))
  · have e : addI b = ([], false) := by unfold addI; rw [if_neg h6]
    rw [e] at ha
    obtain ⟨c, hc1, hc2, hc3⟩ := hdraw q [] (by omega) (by omega)
    exact ⟨c, hc1, hc2, Ev.bindc hs3 (Ev.bind g5 (Ev.bind ha (Ev.neg Bool.false_ne_true hc3)))⟩
theorem FnCutCrc : laws_FnCutCrc.Pure := by
  intro l h1 h2 h3
  refine Ev.rounds ?_
  unfold laws_FnCutCrc.f
  by_cases h : (l.length : Int) > 1048576
  · exact Ev.pos h (Ev.now _)
  · obtain ⟨b, hb, hbl, hd⟩ := drawCut_ev l (wf_bytes h3)
    refine Ev.neg h (Ev.bind hd (Ev.bind (implCut b hb) (Ev.bind (specCut b hb) (Ev.neg (by simp) (Ev.pos rfl ?_)))))
    by_cases hg : good b
    · have e : cutI b = (b.take (b.length - 2), true) := by unfold cutI; rw [if_pos hg]
      rw [e]
      have h6 := hg.1
      have h7 := hg.2.1
      refine Ev.pos rfl (Ev.bind (implAdd _ (hb.take _) (by simp; omega)) ?_)
      have e2 : addI (b.take (b.length - 2)) = (b, true) := by
        unfold addI
        rw [if_pos (by rw [List.length_take]; omega), with_of_good b hb hg]
      rw [e2]
      exact Ev.pos rfl (Ev.eq (Ev.now _) (by simp))
    · have e : cutI b = ([], false) := by unfold cutI; rw [if_neg hg]
      rw [e]
      exact Ev.neg Bool.false_ne_true (Ev.pos rfl (Ev.now _))
end Go.Proofs.Ytpecdgjddffhjaa.Pure
