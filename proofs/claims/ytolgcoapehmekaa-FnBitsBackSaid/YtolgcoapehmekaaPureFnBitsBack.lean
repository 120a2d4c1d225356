/- For all bytes drawn from the law FnBitsBack answers true: the program's BitsOf is the reference's, eight bits for each byte, and BytesOf reads the bytes back from them. No condition. -/
import Derived.Test.YtolgcoapehmekaaPAllx29
import Derived.Test.YtolgcoapehmekaaBitsB
namespace Go.Proofs.Ytolgcoapehmekaa.Pure
open Go.RowKit Go.Proofs.Ytolgcoapehmekaa.PAll Go.Proofs.YtolgcoapehmekaaW.PrintWords Go.Proofs.YtolgcoapehmekaaW.PrintLast Go.Proofs.YtolgcoapehmekaaW.PrintMore Go.Proofs.Ytolgcoapehmekaa.Base

theorem FnBitsBack : laws_FnBitsBack.Pure := by
  intro l h1 h2 h3
  refine Ev.rounds ?_
  unfold laws_FnBitsBack.f
  have hb := wf_bytes h3
  by_cases h : (l.length : Int) > 1048576
  · exact Ev.pos h (Ev.now _)
  · obtain ⟨b, bb, hbl, hd⟩ := drawBitsOf_ev l hb
    have hl := bitsI_len b
    refine Ev.neg h (Ev.bind hd (Ev.bind (implBits b bb) (Ev.bind (specBits b bb) (Ev.bind (wnInts_self (bitsI b) (by omega)) (Ev.pos rfl (Ev.bindc (implBytes _) ?_))))))
    by_cases hc : b.length ≤ 600
    · have e : bitsI b = bitsN b b.length := if_pos hc
      rw [e, bytes_of_bits b bb hc]
      refine Ev.neg (by omega) (Ev.pos rfl (Ev.pos rfl (Ev.eq (Ev.now _) ?_)))
      rw [bitsN_len, w64 (by omega) (by omega)]
      simp
    · have e : bitsI b = [] := if_neg hc
      rw [e]
      exact Ev.pos (by omega) (Ev.pos rfl (Ev.now _))
end Go.Proofs.Ytolgcoapehmekaa.Pure
