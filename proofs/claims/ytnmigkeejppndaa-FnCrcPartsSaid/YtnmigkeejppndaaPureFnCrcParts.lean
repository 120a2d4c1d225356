/- For all bytes that the law FnCrcParts draws data of, it answers true: the check is the one of the parts, byte by byte. No condition. -/
import Derived.Test.YtnmigkeejppndaaPAllx6
import Derived.Test.YtnmigkeejppndaaChkA
namespace Go.Proofs.Ytnmigkeejppndaa.Pure
open Go.RowKit Go.Proofs.Ytnmigkeejppndaa.PAll Go.Proofs.YtnmigkeejppndaaW.PrintWords Go.Proofs.YtnmigkeejppndaaW.PrintLast Go.Proofs.YtnmigkeejppndaaW.PrintMore Go.Proofs.Ytnmigkeejppndaa.Base

theorem drawCrc_ev (l : List Int) (hb : Bytes l) : ∃ b, Bytes b ∧ b.length ≤ 601 ∧ Ev (fun k => spec_DrawCrcOf.f k l) b := by
  obtain ⟨s, hs1, hs2, hs3⟩ := open_eq l
  obtain ⟨b, q, h1, h2, h3, h4, h5⟩ := draw_ev s 0 (hs2 hb) hs1 (by omega)
  unfold spec_DrawCrcOf.f
  exact ⟨b, h1, h2, Ev.bindc hs3 (Ev.bind h5 (Ev.now _))⟩
theorem parts_loop (b : List Int) (hb : Bytes b) (hl : b.length ≤ 600) (d : Nat) : ∀ i : Nat, i + d = b.length → Ev (fun k => laws_FnCrcParts.l0 k b (Crc.reg 65535 b : Int) (Crc.reg 65535 (b.take i) : Int) b (b.length : Int) (i : Int)) true := by
  induction d with
  | zero =>
    intro i h
    refine Ev.succ ?_
    simp only [laws_FnCrcParts.l0]
    refine Ev.neg (by omega) (Ev.eq (Ev.now _) ?_)
    rw [List.take_of_length_le (by omega)]
    simp
  | succ d ih =>
    intro i h
    have hr := Crc.reg_lt 65535 _ (by decide) (toCrc (hb.take i))
    refine Ev.succ ?_
    simp only [laws_FnCrcParts.l0]
    rw [Int.toNat_natCast, succ_i i (by omega)]
    refine Ev.pos (by omega) (Ev.pos (by omega) (Ev.pos (by omega) (Ev.pos (by omega) (Ev.bind (implCrc _ (hb.take i)) (Ev.pos ?_ (Ev.bind (implStep _ _ (hb.at_ _)) ?_))))))
    · unfold crcI
      rw [if_pos (by rw [List.length_take]; omega)]
    · rw [stepI_nat _ _ hr, ← take_step b 65535 i (by omega)]
      exact ih (i + 1) (by omega)
theorem FnCrcParts : laws_FnCrcParts.Pure := by
  intro l h1 h2 h3
  refine Ev.rounds ?_
  unfold laws_FnCrcParts.f
  by_cases h : (l.length : Int) > 1048576
  · exact Ev.pos h (Ev.now _)
  · obtain ⟨b, hb, hbl, hd⟩ := drawCrc_ev l (wf_bytes h3)
    refine Ev.neg h (Ev.bind hd (Ev.bind (implCrc b hb) (Ev.bind (specCrc b hb) (Ev.pos rfl ?_))))
    by_cases h6 : b.length ≤ 600
    · have e : crcI b = (Crc.reg 65535 b : Int) := by unfold crcI; rw [if_pos h6]
      rw [e, decide_eq_false (by omega)]
      refine Ev.succ ?_
      simp only [laws_FnCrcParts.j0]
      exact Ev.neg Bool.false_ne_true (parts_loop b hb h6 b.length 0 (by omega))
    · have e : crcI b = -1 := by unfold crcI; rw [if_neg h6]
      rw [decide_eq_true (by omega)]
      refine Ev.succ ?_
      simp only [laws_FnCrcParts.j0]
      refine Ev.pos trivial (Ev.bind (specCrc b hb) (Ev.pos rfl (Ev.eq (Ev.now _) ?_)))
      rw [e]
      rfl
end Go.Proofs.Ytnmigkeejppndaa.Pure
