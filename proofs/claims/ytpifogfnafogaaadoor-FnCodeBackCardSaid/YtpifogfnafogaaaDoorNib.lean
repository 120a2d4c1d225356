/- The pure side of the nibble's code: what the reference answers is what the program answers; every value is looked at. -/
import Derived.Test.YtpifogfnafogaaaDoorPAllx1
import Derived.Test.YtpifogfnafogaaaDoorPAllx9
import Derived.Test.YtpifogfnafogaaaDoorLibB
import Derived.Test.YtpifogfnafogaaaDoorHNib
namespace Go.Proofs.YtpifogfnafogaaaDoor.Pure
open Go.RowKit Go.Proofs.YtpifogfnafogaaaDoor.PAll Go.Proofs.YtpifogfnafogaaaDoorW.PrintWords Go.Proofs.YtpifogfnafogaaaDoorW.PrintLast Go.Proofs.YtpifogfnafogaaaDoorW.PrintMore Go.Proofs.YtpifogfnafogaaaDoor.Base
set_option maxRecDepth 100000

theorem enc_in : ∀ m : Fin 16, spec_EncodeNibble.f 140 ((m.1 : Nat) : Int) = some (encN ((m.1 : Nat) : Int)) := by decide +kernel
theorem fault_at : ∀ m : Fin 128, spec_l1Fault.f ((m.1 : Nat) : Int) = some (decW ((m.1 : Nat) : Int) false false false) := by decide +kernel
theorem four_at : ∀ m : Fin 128, spec_l1Four.f ((m.1 : Nat) : Int) = some (fourN ((m.1 : Nat) : Int)) ∧ 0 ≤ fourN ((m.1 : Nat) : Int) ∧ fourN ((m.1 : Nat) : Int) ≤ 15 := by decide +kernel
theorem enc_loop (n : Int) (hn : ¬ (0 ≤ n ∧ n ≤ 15)) (d : Nat) : ∀ i : Nat, i + d = 128 → Ev (fun k => spec_EncodeNibble.l0 k n (i : Int)) (-1) := by
  induction d with
  | zero =>
    intro i hi
    refine Ev.succ ?_
    simp only [spec_EncodeNibble.l0]
    exact Ev.neg (by omega) (Ev.now _)
  | succ d ih =>
    intro i hi
    refine Ev.succ ?_
    simp only [spec_EncodeNibble.l0]
    obtain ⟨f1, f2, f3⟩ := four_at ⟨i, by omega⟩
    have g1 := fault_at ⟨i, by omega⟩
    have hx := ih (i + 1) (by omega)
    rw [← succ_i i (by omega)] at hx
    refine Ev.pos (by omega) (Ev.bindc g1 ?_)
    by_cases h : decW ((i : Nat) : Int) false false false = 0
    · exact Ev.pos h (Ev.bindc f1 (Ev.neg (by simp only at f2 f3 ⊢; omega) hx))
    · exact Ev.neg h hx
theorem specEnc (n : Int) : Ev (fun k => spec_EncodeNibble.f k n) (encN n) := by
  by_cases h : 0 ≤ n ∧ n ≤ 15
  · obtain ⟨m, rfl⟩ := fin_of h
    exact Ev.of (spec_EncodeNibble.mono _) (enc_in m)
  · have e : encN n = -1 := if_neg h
    rw [e]
    exact enc_loop n h 128 0 (by omega)
theorem dec_in : ∀ m : Fin 128, spec_DecodeNibble.f ((m.1 : Nat) : Int) = some (decN ((m.1 : Nat) : Int)) := by decide +kernel
theorem specDec (n : Int) : spec_DecodeNibble.f n = some (decN n) := by
  by_cases h : 0 ≤ n ∧ n ≤ 127
  · obtain ⟨m, rfl⟩ := fin7_of h
    exact dec_in m
  · have e : decN n = (-1, -1) := if_neg h
    have g : spec_l1In.f n 0 127 = some false := by
      unfold spec_l1In.f
      by_cases k : n ≥ 0
      · rw [if_pos k, decide_eq_false (by omega)]
      · rw [if_neg k]
    rw [e]
    unfold spec_DecodeNibble.f
    rw [g]
    rfl
end Go.Proofs.YtpifogfnafogaaaDoor.Pure
