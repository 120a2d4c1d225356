/- The pure side of the nibble's code: what the reference answers is what the program answers; every value is looked at. -/
import Derived.Test.YtpifogfnafogaaaDoorPAllx2
import Derived.Test.YtpifogfnafogaaaDoorPAllx3
import Derived.Test.YtpifogfnafogaaaDoorLibB
import Derived.Test.YtpifogfnafogaaaDoorHNib
namespace Go.Proofs.YtpifogfnafogaaaDoor.Pure
open Go.RowKit Go.Proofs.YtpifogfnafogaaaDoor.PAll Go.Proofs.YtpifogfnafogaaaDoorW.PrintWords Go.Proofs.YtpifogfnafogaaaDoorW.PrintLast Go.Proofs.YtpifogfnafogaaaDoorW.PrintMore Go.Proofs.YtpifogfnafogaaaDoor.Base
set_option maxRecDepth 100000

theorem fault_at : ∀ m : Fin 128, spec_l1Fault.f ((m.1 : Nat) : Int) = some (decW ((m.1 : Nat) : Int) false false false) := by decide +kernel
theorem four_at : ∀ m : Fin 128, spec_l1Four.f ((m.1 : Nat) : Int) = some (fourN ((m.1 : Nat) : Int)) ∧ 0 ≤ fourN ((m.1 : Nat) : Int) ∧ fourN ((m.1 : Nat) : Int) ≤ 15 := by decide +kernel
theorem dec_in : ∀ m : Fin 128, spec_DecodeNibble.f ((m.1 : Nat) : Int) = some (decN ((m.1 : Nat) : Int)) := by decide +kernel
theorem specDec (n : Int) : spec_DecodeNibble.f n = some (decN n) := by
  by_cases h : 0 ≤ n ∧ n ≤ 127
  · obtain ⟨m, rfl⟩ := fin7_of h
    exact dec_in m
  · have e : decN n = (-1, -1) := if_neg h
    have g : spec_l1In.f n 0 127 = some false := by
      unfold spec_l1In.f
      by_cases k : n ≥ 0
      · rw [if_pos k, decide_eq_false (by omega)]
      · rw [if_neg k]
    rw [e]
    unfold spec_DecodeNibble.f
    rw [g]
    rfl
end Go.Proofs.YtpifogfnafogaaaDoor.Pure
