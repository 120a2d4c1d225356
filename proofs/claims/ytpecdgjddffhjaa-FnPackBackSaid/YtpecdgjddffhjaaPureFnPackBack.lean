/- For all bytes that the law FnPackBack draws a packet of, it answers true: what is packed is unpacked as it was, its kind, its number and its data. No condition. -/
import Derived.Test.YtpecdgjddffhjaaPAllx23
import Derived.Test.YtpecdgjddffhjaaPAllx24
import Derived.Test.YtpecdgjddffhjaaChkP
namespace Go.Proofs.Ytpecdgjddffhjaa.Pure
open Go.RowKit Go.Proofs.Ytpecdgjddffhjaa.PAll Go.Proofs.YtpecdgjddffhjaaW.PrintWords Go.Proofs.YtpecdgjddffhjaaW.PrintLast Go.Proofs.YtpecdgjddffhjaaW.PrintMore Go.Proofs.Ytpecdgjddffhjaa.Base

theorem drawPack_ev (l : List Int) (hb : Bytes l) : ∃ kind seq b, Bytes b ∧ b.length ≤ 601 ∧ Ev (fun k => spec_DrawPackLink.f k l) (kind, seq, b) := by
  obtain ⟨s, hs1, hs2, hs3⟩ := open_eq l
  have hs := hs2 hb
  obtain ⟨b, q, g1, g2, g3, g4, g5⟩ := draw_ev s 0 hs hs1 (by omega)
  obtain ⟨x, hx0, hx⟩ := num_ev s q [1, 2, 1, 0, 3, 1] hs hs1 (by omega) (by simp) (by simp)
  unfold spec_DrawPackLink.f
  by_cases h2 : x = 2
  · obtain ⟨y, hy0, hy1, hy⟩ := pick_ev s (q + 1) 3 hs hs1 (by omega) (by omega)
    obtain ⟨z, hz0, hz⟩ := num_ev s (q + 1 + 1) [0, 1, 15, 7, 16, (-1)] hs hs1 (by omega) (by simp) (by simp)
    by_cases h3 : y > 0
    · exact ⟨x, z, [], (fun v hv => by cases hv), by simp, Ev.bindc hs3 (Ev.bind g5 (Ev.bind hx (Ev.pos h2 (Ev.bind hy (Ev.pos h3 (Ev.bind hz (Ev.now _)))))))⟩
    · exact ⟨x, z, b, g1, g2, Ev.bindc hs3 (Ev.bind g5 (Ev.bind hx (Ev.pos h2 (Ev.bind hy (Ev.neg h3 (Ev.bind hz (Ev.now _)))))))⟩
  · obtain ⟨z, hz0, hz⟩ := num_ev s (q + 1) [0, 1, 15, 7, 16, (-1)] hs hs1 (by omega) (by simp) (by simp)
    exact ⟨x, z, b, g1, g2, Ev.bindc hs3 (Ev.bind g5 (Ev.bind hx (Ev.neg h2 (Ev.bind hz (Ev.now _)))))⟩
theorem FnPackBack : laws_FnPackBack.Pure := by
  intro l h1 h2 h3
  refine Ev.rounds ?_
  unfold laws_FnPackBack.f
  by_cases h : (l.length : Int) > 1048576
  · exact Ev.pos h (Ev.now _)
  · obtain ⟨kind, seq, b, hb, hbl, hd⟩ := drawPack_ev l (wf_bytes h3)
    have hp := packI_bytes kind seq b hb
    refine Ev.neg h (Ev.bind hd (Ev.bind (implPack kind seq b hb (by omega)) (Ev.bind (specPack kind seq b hb (by omega)) (Ev.neg (by simp) (Ev.pos rfl ?_)))))
    by_cases hc : (1 ≤ kind ∧ kind ≤ 2) ∧ (0 ≤ seq ∧ seq ≤ 15) ∧ ¬ (kind = 2 ∧ 0 < b.length)
    · have e0 : packI kind seq b = addI ([16 * kind + seq] ++ b) := by unfold packI; rw [if_pos hc]
      by_cases h6 : ([16 * kind + seq] ++ b).length + 2 ≤ 600
      · have e : packI kind seq b = (withCrc ([16 * kind + seq] ++ b), true) := by rw [e0]; unfold addI; rw [if_pos h6]
        have hpb := pack_bytes kind seq b hc.1 hc.2.1 hb
        have hg := good_with _ hpb h6
        have e1 : cutI (withCrc ([16 * kind + seq] ++ b)) = ([16 * kind + seq] ++ b, true) := by unfold cutI; rw [if_pos hg, take_with]
        have hr : rd ([16 * kind + seq] ++ b) 0 = 16 * kind + seq := by simp [rd]
        have e2 : unpackI (withCrc ([16 * kind + seq] ++ b)) = (kind, seq, b, true) := by
          unfold unpackI
          rw [e1, if_pos rfl]
          unfold openI
          rw [hr, show (16 * kind + seq) / 16 = kind by omega, show (16 * kind + seq) % 16 = seq by omega]
          rw [if_pos ⟨by simp, hc.1, fun h => hc.2.2 ⟨h.1, by have := h.2; simp at this; omega⟩⟩]
          rfl
        rw [e]
        refine Ev.pos rfl (Ev.bind (implUnpack _ (withCrc_bytes _ hpb)) ?_)
        rw [e2]
        exact Ev.pos rfl (Ev.pos rfl (Ev.pos rfl (Ev.eq (Ev.now _) (by simp))))
      · have e : packI kind seq b = ([], false) := by rw [e0]; unfold addI; rw [if_neg h6]
        rw [e]
        exact Ev.neg Bool.false_ne_true (Ev.pos rfl (Ev.now _))
    · have e : packI kind seq b = ([], false) := by unfold packI; rw [if_neg hc]
      rw [e]
      exact Ev.neg Bool.false_ne_true (Ev.pos rfl (Ev.now _))
end Go.Proofs.Ytpecdgjddffhjaa.Pure
