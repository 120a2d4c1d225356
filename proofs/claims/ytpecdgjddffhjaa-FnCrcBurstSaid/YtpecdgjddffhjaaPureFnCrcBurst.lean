/- For all bytes that the law FnCrcBurst draws data of, it answers true: no burst of up to 16 turned bits behind a check is taken for right, wherever it begins. No condition. -/
import Derived.Test.YtpecdgjddffhjaaPAllx20
import Derived.Test.YtpecdgjddffhjaaPAllx21
import Derived.Test.YtpecdgjddffhjaaChkP
import Derived.Test.YtpecdgjddffhjaaFlipI
namespace Go.Proofs.Ytpecdgjddffhjaa.Pure
open Go.RowKit Go.Proofs.Ytpecdgjddffhjaa.PAll Go.Proofs.YtpecdgjddffhjaaW.PrintWords Go.Proofs.YtpecdgjddffhjaaW.PrintLast Go.Proofs.YtpecdgjddffhjaaW.PrintMore Go.Proofs.Ytpecdgjddffhjaa.Base

attribute [local irreducible] Crc.sbs Crc.reg
theorem burst_loop (b x : List Int) (hx6 : x.length ≤ 600) (hx2 : 2 ≤ x.length) (at_ : Nat) (hat : at_ < 8 * x.length) (m : Nat) (hm1 : 1 ≤ m) (hm : m ≤ 16) (d : Nat) :
    ∀ (i : Nat) (y : List Int) (p : Nat), i + d = m → Bytes y → y.length = x.length → p < 65536 → (i = 0 → p = 0) → (1 ≤ i → p.testBit 15 = true) → Crc.reg 65535 y = Crc.sbs (8 * x.length - at_) p → Ev (fun k => laws_FnCrcBurst.l0 k b (at_ : Int) y (m : Int) (i : Int)) true := by
  induction d with
  | zero =>
    intro i y p hi hy hyl hp h0 h1 hr
    have hne : ¬ good y := fun hg => by
      have hz := hg.2.2
      rw [hr] at hz
      refine Crc.sbs_ne _ p hp ?_ hz
      rintro rfl
      have := h1 (by omega)
      simp at this
    refine Ev.succ ?_
    simp only [laws_FnCrcBurst.l0]
    refine Ev.neg (by omega) (Ev.bind (implCut y hy) (Ev.eq (Ev.now _) ?_))
    unfold cutI
    rw [if_neg hne]
    rfl
  | succ d ih =>
    intro i y p hi hy hyl hp h0 h1 hr
    have HR := Aside0.mk hr
    clear hr
    have e1 : wrap64 ((at_ : Int) + (i : Int)) = ((at_ + i : Nat) : Int) := by rw [w64 (by omega) (by omega)]; omega
    have e2 : wrap64 (8 * (y.length : Int)) = ((8 * x.length : Nat) : Int) := by rw [w64 (by omega) (by omega)]; omega
    have hskip : 1 ≤ i → Ev (fun k => laws_FnCrcBurst.l0 k b (at_ : Int) y (m : Int) ((i + 1 : Nat) : Int)) true := fun hi1 => ih (i + 1) y p (by omega) hy hyl hp (by omega) (fun _ => h1 hi1) HR.out
    have hflip : at_ + i < 8 * x.length → Ev (fun k => (impl_FlipBit.f y ((at_ + i : Nat) : Int)).bind fun bt => laws_FnCrcBurst.l0 k b (at_ : Int) bt.1 (m : Int) ((i + 1 : Nat) : Int)) true := by
      intro hlt
      refine Ev.bindc (implFlip_nat y hy (by omega) (at_ + i) (by omega)) ?_
      have h15 : 2 ^ (15 - i) < 65536 := Nat.lt_of_lt_of_le (Nat.pow_lt_pow_right (by decide) (show 15 - i < 16 by omega)) (by decide)
      refine ih (i + 1) _ (p ^^^ 2 ^ (15 - i)) (by omega) (Crc.flip_bytes _ _ hy (by omega)) (by rw [Crc.flip_length]; exact hyl) (Crc.xor_lt hp h15) (by omega) (fun _ => ?_) ?_
      · rw [Nat.testBit_xor, Nat.testBit_two_pow]
        by_cases hz : i = 0
        · rw [h0 hz, hz]
          simp
        · rw [h1 (by omega)]
          have : ¬ 15 - i = 15 := by omega
          simp [this]
      · rw [Crc.reg_flip _ _ _ (by decide) hy (by omega), HR.out, Crc.sbs_xor _ _ _ hp h15, hyl]
        congr 1
        rw [show 8 * x.length - at_ = i + (8 * x.length - (at_ + i)) by omega, Crc.sbs_add, Crc.sbs_up i (15 - i) (by omega)]
    refine Ev.succ ?_
    simp only [laws_FnCrcBurst.l0]
    rw [e1, e2, succ_i i (by omega)]
    refine Ev.pos (by omega) ?_
    by_cases hlt : at_ + i < 8 * x.length
    · refine Ev.pos (by omega) ?_
      by_cases hz : i = 0
      · exact Ev.pos (by omega) (hflip hlt)
      · refine Ev.neg (by omega) ?_
        by_cases ht : Int.tmod (wrap64 ((b.length : Int) + (wrap64 ((i : Int) * (i : Int))))) 3 > 0
        · exact Ev.pos ht (hflip hlt)
        · exact Ev.neg ht (hskip (by omega))
    · exact Ev.neg (by omega) (hskip (by omega))
theorem FnCrcBurst : laws_FnCrcBurst.Pure := by
  intro l h1 h2 h3
  refine Ev.rounds ?_
  unfold laws_FnCrcBurst.f
  by_cases h : (l.length : Int) > 1048576
  · exact Ev.pos h (Ev.now _)
  · obtain ⟨b, hb, hbl, hd⟩ := drawAdd_ev l (wf_bytes h3)
    refine Ev.neg h (Ev.bind hd (Ev.bind (implAdd b hb (by omega)) (Ev.bind (specAdd b hb (by omega)) (Ev.neg (by simp) (Ev.pos rfl ?_)))))
    refine Ev.succ ?_
    simp only [laws_FnCrcBurst.j0]
    by_cases h6 : b.length + 2 ≤ 600
    · have e : addI b = (withCrc b, true) := by unfold addI; rw [if_pos h6]
      have hg := good_with b hb h6
      have hw := withCrc_length b
      rw [e]
      have e1 : wrap64 (8 * ((withCrc b).length : Int)) = ((8 * (withCrc b).length : Nat) : Int) := by rw [w64 (by omega) (by omega)]; omega
      have e2 : Int.tmod (wrap64 ((l.length : Int) * 7)) ((8 * (withCrc b).length : Nat) : Int) = ((l.length * 7 % (8 * (withCrc b).length) : Nat) : Int) := by
        rw [w64 (by omega) (by omega), Int.tmod_eq_emod_of_nonneg (by omega)]
        rw [show (l.length : Int) * 7 = ((l.length * 7 : Nat) : Int) by omega, ← Int.natCast_emod]
      have e3 : 1 + ((l.length : Int) % 16) = ((1 + l.length % 16 : Nat) : Int) := by omega
      refine Ev.neg Bool.false_ne_true ?_
      rw [e1, e2, e3]
      refine Ev.neg (by omega) (Ev.bindc rfl (Ev.pos (by simp; omega) ?_))
      rw [List.nil_append]
      exact burst_loop b (withCrc b) hg.1 hg.2.1 _ (Nat.mod_lt _ (by omega)) (1 + l.length % 16) (by omega) (by omega) (1 + l.length % 16) 0 (withCrc b) 0 (by omega) (withCrc_bytes b hb) rfl (by decide) (fun _ => rfl) (fun h => by omega) (by rw [Crc.sbs_zero]; exact hg.2.2)
    · have e : addI b = ([], false) := by unfold addI; rw [if_neg h6]
      rw [e]
      exact Ev.pos (by first | rfl | trivial) (Ev.pos (by first | rfl | trivial) (Ev.eq (Ev.now _) (by simp)))
end Go.Proofs.Ytpecdgjddffhjaa.Pure
