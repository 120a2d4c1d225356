/- For all bytes drawn from the law FnParityFlip answers true: the program's FlipBit and ParityOf are the reference's, a turned bit turns the parity and lies one bit apart, and turning it again turns it back. No condition. -/
import Derived.Test.YtolgcoapehmekaaPAllx23
import Derived.Test.YtolgcoapehmekaaBitsD
namespace Go.Proofs.Ytolgcoapehmekaa.Pure
open Go.RowKit Go.Proofs.Ytolgcoapehmekaa.PAll Go.Proofs.YtolgcoapehmekaaW.PrintWords Go.Proofs.YtolgcoapehmekaaW.PrintLast Go.Proofs.YtolgcoapehmekaaW.PrintMore Go.Proofs.Ytolgcoapehmekaa.Base

theorem FnParityFlip : laws_FnParityFlip.Pure := by
  intro l h1 h2 h3
  refine Ev.rounds ?_
  unfold laws_FnParityFlip.f
  have hb := wf_bytes h3
  by_cases h : (l.length : Int) > 1048576
  · exact Ev.pos h (Ev.now _)
  · obtain ⟨b, i, bb, bl, hd⟩ := drawFlip_ev l hb
    have hi := implFlip b bb i
    have hs := specFlipBit b bb i
    refine Ev.neg h (Ev.bind hd (Ev.bindc hi (Ev.bindc hs (Ev.neg (by simp) (Ev.pos rfl (Ev.bind (implPar b bb) (Ev.bind (specPar b bb) (Ev.pos rfl ?_))))))))
    by_cases hc : b.length ≤ 600 ∧ 0 ≤ i ∧ i < 8 * (b.length : Int)
    · obtain ⟨h600, h0, h8⟩ := hc
      obtain ⟨k, rfl⟩ := Int.eq_ofNat_of_zero_le h0
      rw [flipI_yes ⟨h600, h0, h8⟩]
      have hk : k / 8 < b.length := by omega
      have fb := Crc.flip_bytes b k bb (by omega)
      have fl := Crc.flip_length b k
      have back := implFlip_nat (Crc.flip b k) fb (by omega) k (by omega)
      rw [flip_flip b bb k hk] at back
      have e1 : parI (Crc.flip b k) = wrap64 (1 - parI b) := by
        unfold parI
        have p1 := popN_range b b.length
        have p2 := popN_range (Crc.flip b k) b.length
        have p3 := popN_flip b bb k hk b.length
        rw [if_pos hk] at p3
        rw [fl, if_pos h600, if_pos h600, Int.tmod_eq_emod_of_nonneg p1.1, Int.tmod_eq_emod_of_nonneg p2.1, w64 (by omega) (by omega)]
        omega
      have e2 : distI (Crc.flip b k) b = 1 := by
        rw [distI_yes ⟨by omega, fl⟩, fl, popX_flip b k hk, if_pos hk]
      refine Ev.succ ?_
      simp only [laws_FnParityFlip.j0]
      refine Ev.neg (by simp) (Ev.bindc back (Ev.pos rfl (Ev.pos rfl (Ev.bind (implPar _ fb) (Ev.bind (implPar b bb) (Ev.pos e1 (Ev.bind (implDist _ b fb bb) (Ev.eq (Ev.now _) ?_))))))))
      show (distI (Crc.flip b k) b == 1) = true
      rw [e2]
      rfl
    · rw [flipI_no hc]
      refine Ev.succ ?_
      simp only [laws_FnParityFlip.j0]
      refine Ev.pos rfl (Ev.pos (by simp) (Ev.pos trivial (Ev.bind (implPar b bb) (Ev.bind (specPar b bb) (Ev.eq (Ev.now _) ?_)))))
      simp
end Go.Proofs.Ytolgcoapehmekaa.Pure
