/- For all bytes drawn from the law FnUnpack answers true: the program's UnpackLink is the reference's, and what it unpacks packs to the same packet again. No condition. -/
import Derived.Test.YtpecdgjddffhjaaPAllx10
import Derived.Test.YtpecdgjddffhjaaPAllx16
import Derived.Test.YtpecdgjddffhjaaChkU
namespace Go.Proofs.Ytpecdgjddffhjaa.Pure
open Go.RowKit Go.Proofs.Ytpecdgjddffhjaa.PAll Go.Proofs.YtpecdgjddffhjaaW.PrintWords Go.Proofs.YtpecdgjddffhjaaW.PrintLast Go.Proofs.YtpecdgjddffhjaaW.PrintMore Go.Proofs.Ytpecdgjddffhjaa.Base

theorem FnUnpack : laws_FnUnpack.Pure := by
  intro l h1 h2 h3
  refine Ev.rounds ?_
  unfold laws_FnUnpack.f
  by_cases h : (l.length : Int) > 1048576
  · exact Ev.pos h (Ev.now _)
  · obtain ⟨b, hb, hbl, hd⟩ := drawUnpack_ev l (wf_bytes h3)
    refine Ev.neg h (Ev.bind hd (Ev.bind (implUnpack b hb) (Ev.bind (specUnpack b hb) (Ev.pos rfl (Ev.pos rfl (Ev.pos rfl (Ev.neg (by simp) ?_)))))))
    have no : unpackI b = (0, 0, [], false) → Ev (fun n => if (unpackI b).2.2.2 = true then ((impl_PackLink.f n (unpackI b).1 (unpackI b).2.1 (unpackI b).2.2.1).bind fun bt => if bt.2 = true then some ((strOfNums bt.1).toList == (strOfNums b).toList) else some false) else if ((unpackI b).2.2.2 == (unpackI b).2.2.2) = true then some ((unpackI b).1 == 0) else some false) true := by
      intro e
      rw [e]
      exact Ev.neg Bool.false_ne_true (Ev.pos rfl (Ev.now _))
    by_cases hg : good b
    · have e : cutI b = (b.take (b.length - 2), true) := by unfold cutI; rw [if_pos hg]
      have h6 := hg.1
      have h7 := hg.2.1
      have hpb := hb.take (b.length - 2)
      have hpl : (b.take (b.length - 2)).length ≤ 598 := by rw [List.length_take]; omega
      have e2 : addI (b.take (b.length - 2)) = (b, true) := by
        unfold addI
        rw [if_pos (by rw [List.length_take]; omega), with_of_good b hb hg]
      have eu : unpackI b = openI (b.take (b.length - 2)) := by
        unfold unpackI
        rw [e, if_pos rfl]
      generalize b.take (b.length - 2) = p at e2 eu hpb hpl
      by_cases hc : 0 < p.length ∧ (1 ≤ rd p 0 / 16 ∧ rd p 0 / 16 ≤ 2) ∧ ¬ (rd p 0 / 16 = 2 ∧ 1 < p.length)
      · have eo : unpackI b = (rd p 0 / 16, rd p 0 % 16, p.drop 1, true) := by
          rw [eu]
          exact if_pos hc
        have hr := hpb.at_ 0
        have ep : [16 * (rd p 0 / 16) + rd p 0 % 16] ++ p.drop 1 = p := by
          rw [show 16 * (rd p 0 / 16) + rd p 0 % 16 = rd p 0 by omega]
          cases p with
          | nil => simp at hc
          | cons x p => simp [rd]
        have epk : packI (rd p 0 / 16) (rd p 0 % 16) (p.drop 1) = (b, true) := by
          unfold packI
          rw [if_pos ⟨hc.2.1, by omega, fun h => hc.2.2 ⟨h.1, by have := h.2; rw [List.length_drop] at this; omega⟩⟩, ep, e2]
        have hpk := implPack (rd p 0 / 16) (rd p 0 % 16) (p.drop 1) (hpb.drop 1) (by rw [List.length_drop]; omega)
        rw [epk] at hpk
        rw [eo]
        exact Ev.pos rfl (Ev.bind hpk (Ev.pos rfl (Ev.eq (Ev.now _) (by simp))))
      · exact no (by rw [eu]; exact if_neg hc)
    · exact no (by
        unfold unpackI
        have e : cutI b = ([], false) := by unfold cutI; rw [if_neg hg]
        rw [e]
        rfl)
end Go.Proofs.Ytpecdgjddffhjaa.Pure
