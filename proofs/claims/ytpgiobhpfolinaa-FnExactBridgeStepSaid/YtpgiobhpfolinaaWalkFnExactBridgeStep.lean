/- The law FnExactBridgeStep: what is to be proved of numbers and lists alone, and that the machine's call answers so; its third argument is a struct of three numbers. -/
import Derived.Test.YtpgiobhpfolinaaPAllx10
namespace Go.Proofs.Ytpgiobhpfolinaa.PAll
open Go.RowKit Go.Proofs.YtpgiobhpfolinaaW.PrintWords Go.Proofs.YtpgiobhpfolinaaW.PrintLast Go.Proofs.YtpgiobhpfolinaaW.PrintMore

def laws_FnExactBridgeStep.Pure : Prop := ∀ (l0 : List Int) (a1 x y z : Int), l0.length ≤ maxLen → l0.length * 8 ≤ 140737488351232 → (∀ x ∈ l0, (Lit.int .i64 x).wf = true) → (Lit.int .i64 a1).wf = true → (Lit.int .i64 x).wf = true → (Lit.int .i64 y).wf = true → (Lit.int .i64 z).wf = true → ∃ k, laws_FnExactBridgeStep.f k l0 a1 x y z = some true
theorem laws_FnExactBridgeStep.walk (P : laws_FnExactBridgeStep.Pure) (a0 : Option Addr) (len0 cap0 : Nat) (z0 : List Int) (a1 x y z : Int) (w : World) (w0 : (a0 = none ∧ len0 = 0 ∧ cap0 = 0 ∧ z0 = []) ∨ ∃ x, a0 = some x ∧ len0 ≤ cap0 ∧ cap0 ≤ maxLen ∧ z0.length = cap0 ∧ (∀ i, i < z0.length → w.cell? (x.add i) = some (.int .i64 (z0.getD i 0))) ∧ ∀ n ∈ z0, (Lit.int .i64 n).wf = true) (y0 : len0 * 8 ≤ 140737488351232)
    (w1 : (Lit.int .i64 a1).wf = true) (wx : (Lit.int .i64 x).wf = true) (wy : (Lit.int .i64 y).wf = true) (wz : (Lit.int .i64 z).wf = true) :
    Calls Try.prog 10 #[.slice a0 len0 cap0, .int .i64 a1, .agg #[.int .i64 x, .int .i64 y, .int .i64 z]] w fun e w' => e = .returned (.bool true) ∧ Below w.heap.size w w' := by
  obtain ⟨l0, rfl, hr0, hm0, hw0, hc0⟩ := ReadsInt.ofRowC w0
  obtain ⟨k, h⟩ := P l0 a1 x y z hm0 y0 hw0 w1 wx wy wz
  refine (laws_FnExactBridgeStep.calls k _ _ l0 a1 x y z true w (Kd.C_of_reads (d := (0 : Int)) (h1 := fun _ => rfl) hr0) hc0 h).mono ?_
  rintro e w' ⟨rfl, hd⟩
  exact ⟨rfl, hd⟩

end Go.Proofs.Ytpgiobhpfolinaa.PAll
