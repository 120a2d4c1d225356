/- For all bytes that the law FnCrcStep draws its arguments of, it answers true: one bit of the byte changes the check. No condition. -/
import Derived.Test.YtnmigkeejppndaaPAllx2
import Derived.Test.YtnmigkeejppndaaChkA
namespace Go.Proofs.Ytnmigkeejppndaa.Pure
open Go.RowKit Go.Proofs.Ytnmigkeejppndaa.PAll Go.Proofs.YtnmigkeejppndaaW.PrintWords Go.Proofs.YtnmigkeejppndaaW.PrintLast Go.Proofs.YtnmigkeejppndaaW.PrintMore Go.Proofs.Ytnmigkeejppndaa.Base

theorem shl_one : ∀ i : Nat, i < 8 → shl .u8 1 (i : Int) = ((2 ^ i : Nat) : Int) := by decide +kernel
theorem drawStep_ev (l : List Int) (hb : Bytes l) : ∃ a b, (0 ≤ b ∧ b < 256) ∧ Ev (fun k => spec_DrawCrcStep.f k l) (a, b) := by
  obtain ⟨s, hs1, hs2, hs3⟩ := open_eq l
  have hs := hs2 hb
  obtain ⟨x, hx0, hx1, hx⟩ := pick_ev s 0 256 hs hs1 (by omega) (by omega)
  obtain ⟨y, hy0, hy1, hy⟩ := pick_ev s (0 + 1) 256 hs hs1 (by omega) (by omega)
  obtain ⟨z, hz0, hz⟩ := num_ev s (0 + 1 + 1) [65535, 0, 1, 32768, 4129, 65536, (-1), wrap64 ((wrap64 (x * 256)) + y)] hs hs1 (by omega) (by simp) (by simp)
  obtain ⟨v, hv0, hv1, hv⟩ := pick_ev s (0 + 1 + 1 + 1) 256 hs hs1 (by omega) (by omega)
  unfold spec_DrawCrcStep.f
  exact ⟨z, v % 256, by omega, Ev.bindc hs3 (Ev.bind hx (Ev.bind hy (Ev.bind hz (Ev.bind hv (Ev.now _)))))⟩
theorem step_other (a b : Int) (i : Nat) (ha : 0 ≤ a ∧ a ≤ 65535) (hb : 0 ≤ b ∧ b < 256) (hi : i < 8) : Crc.step a.toNat (b.toNat ^^^ 2 ^ i) ≠ Crc.step a.toNat b.toNat := by
  intro e
  have h2 : 2 ^ i < 256 := Nat.lt_of_lt_of_le (Nat.pow_lt_pow_right (by decide) hi) (by decide)
  rw [Crc.step_xor_byte _ _ _ (by omega) (by omega) h2] at e
  have e2 : Crc.sbs 8 (2 ^ i * 256) = 0 := by
    have := congrArg (Crc.step a.toNat b.toNat ^^^ ·) e
    simpa [← Nat.xor_assoc] using this
  exact Crc.sbs_ne 8 _ (by omega) (by have : 0 < 2 ^ i := Nat.two_pow_pos i; omega) e2
theorem stepLaw_loop (a b : Int) (ha : 0 ≤ a ∧ a ≤ 65535) (hb : 0 ≤ b ∧ b < 256) (d : Nat) : ∀ i : Nat, i + d = 8 → Ev (fun k => laws_FnCrcStep.l0 k a b (stepI a b) (i : Int)) true := by
  have hn : stepI a b ≤ 65535 := by
    have := Crc.step_lt a.toNat b.toNat (by omega) (by omega)
    unfold stepI
    rw [if_pos ha]
    omega
  induction d with
  | zero =>
    intro i h
    refine Ev.succ ?_
    simp only [laws_FnCrcStep.l0]
    exact Ev.neg (by omega) (Ev.eq (Ev.now _) (decide_eq_true hn))
  | succ d ih =>
    intro i h
    have h2 : 2 ^ i < 256 := Nat.lt_of_lt_of_le (Nat.pow_lt_pow_right (by decide) (show i < 8 by omega)) (by decide)
    have hx := Nat.xor_lt_two_pow (n := 8) (show b.toNat < 256 by omega) h2
    have e1 := shl_one i (by omega)
    have e4 := step_other a b i ha hb (by omega)
    generalize 2 ^ i = m at h2 hx e1 e4
    refine Ev.succ ?_
    simp only [laws_FnCrcStep.l0]
    rw [e1, u8_xor _ _ hb.1 hb.2 (by omega) (by omega), Int.toNat_natCast, succ_i i (by omega)]
    refine Ev.pos (by omega) (Ev.pos (by omega) (Ev.bind (implStep a _ (by omega)) (Ev.neg ?_ (ih (i + 1) (by omega)))))
    unfold stepI
    rw [if_pos ha, if_pos ha, Int.toNat_natCast]
    omega
theorem FnCrcStep : laws_FnCrcStep.Pure := by
  intro l h1 h2 h3
  refine Ev.rounds ?_
  unfold laws_FnCrcStep.f
  by_cases h : (l.length : Int) > 1048576
  · exact Ev.pos h (Ev.now _)
  · obtain ⟨a, b, hb, hd⟩ := drawStep_ev l (wf_bytes h3)
    refine Ev.neg h (Ev.bind hd (Ev.bind (implStep a b hb) (Ev.bind (specStep a b hb) (Ev.pos rfl ?_))))
    by_cases ha : 0 ≤ a ∧ a ≤ 65535
    · have hn : ¬ stepI a b < 0 := by unfold stepI; rw [if_pos ha]; omega
      rw [decide_eq_false hn]
      refine Ev.succ ?_
      simp only [laws_FnCrcStep.j0]
      exact Ev.neg Bool.false_ne_true (stepLaw_loop a b ha hb 8 0 rfl)
    · have hn : stepI a b = -1 := by unfold stepI; rw [if_neg ha]
      rw [decide_eq_true (by omega)]
      refine Ev.succ ?_
      simp only [laws_FnCrcStep.j0]
      refine Ev.pos trivial (Ev.bind (specStep a b hb) (Ev.pos rfl (Ev.eq (Ev.now _) ?_)))
      rw [hn]
      rfl
end Go.Proofs.Ytnmigkeejppndaa.Pure
