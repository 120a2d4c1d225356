/-
  No cell of these rows narrows 'for every input' (looked for: loops, veiled, ifaces, maps, wideKeys, modest, calm, conditions, laid).
  DERIVED. THE GIVEN ROWS OF THIS SEAT. 10 by the template 'for every input the law returns true; each argument reads behind the call as it read before'; 0 by the template 'total and deterministic' (their statements: YtnmigkeejppndaaTotals.lean).
  GIVEN WITH THE SEED: the statements are not yours to turn. If you find one false, say at which input.
  Laid BY PROGRAM, IN A SANDBOX (cutbox-rows.mjs): the forced cells as the released guide's own fill.sh prints them over the translation d33497a475aaf782… (all of the seat's roots in one cut). By AI agents, Wed Nov 11 2026. No macro, syntax, notation, axiom, sorry.
-/
import Derived.Test.YtnmigkeejppndaaChecked
import GoSem.Claim
import GoSem.ClaimJoined
import GoSem.ClaimMapViews
import Derived.JoinedTies
import Derived.KernelRfl
namespace Go.Proofs.Ytnmigkeejppndaa
/- THE CELL 'sum', in the pinned program and in every row, IS THE sha256 OF THE DUMP (.gsa) THAT YtnmigkeejppndaaProg.lean LOADS. Nothing in Lean hashes anything: it is a label: what it is worth is what the hold of that sum in a sandbox is worth. -/
noncomputable def Try.pinned : Pinned := { name := "ytnmigkeejppndaa", sum := "d33497a475aaf7825cd25051014427d95d5090426087aca7c9cae0ac59fd0370", checked := Try.checked }
namespace Rows
def none {H : Type} : Left H := { results := [], args := [] }

/-- 'laws.FnExactConstants': WHATEVER THE INPUT: true; the input reads as it did. -/
def fnExactConstantsSpec : ChangeSpec := { name := "fnExactConstants", fn := fun _ => fun
  | [] => { results := [.lit (.bool true)], args := [] }
  | _ => none }
def fnExactConstantsRow : OpenClaim := { program := "ytnmigkeejppndaa", sum := "d33497a475aaf7825cd25051014427d95d5090426087aca7c9cae0ac59fd0370", func := "loop.example/wholenet/laws.FnExactConstants", spec := "fnExactConstants", apart := false }
def FnExactConstantsSaid : Prop := fnExactConstantsRow.holds Try.pinned (OpenSpec.ofChange fnExactConstantsSpec)

/-- ITS FALSE NEIGHBOUR: 'it returns false'. Refute it at one input. -/
def fnExactConstantsWrong : ChangeSpec := { name := "fnExactConstants", fn := fun _ => fun
  | [] => { results := [.lit (.bool false)], args := [] }
  | _ => none }
def FnExactConstantsWrongFalsely : Prop := fnExactConstantsRow.holds Try.pinned (OpenSpec.ofChange fnExactConstantsWrong)

/-- 'laws.FnExactCrcStep': WHATEVER THE INPUT: true; the input reads as it did. -/
def fnExactCrcStepSpec : ChangeSpec := { name := "fnExactCrcStep", fn := fun _ => fun
  | [d1, d2] => { results := [.lit (.bool true)], args := [d1, d2] }
  | _ => none }
def fnExactCrcStepRow : OpenClaim := { program := "ytnmigkeejppndaa", sum := "d33497a475aaf7825cd25051014427d95d5090426087aca7c9cae0ac59fd0370", func := "loop.example/wholenet/laws.FnExactCrcStep", spec := "fnExactCrcStep", apart := false }
def FnExactCrcStepSaid : Prop := fnExactCrcStepRow.holds Try.pinned (OpenSpec.ofChange fnExactCrcStepSpec)

/-- ITS FALSE NEIGHBOUR: 'it returns false'. Refute it at one input. -/
def fnExactCrcStepWrong : ChangeSpec := { name := "fnExactCrcStep", fn := fun _ => fun
  | [d1, d2] => { results := [.lit (.bool false)], args := [d1, d2] }
  | _ => none }
def FnExactCrcStepWrongFalsely : Prop := fnExactCrcStepRow.holds Try.pinned (OpenSpec.ofChange fnExactCrcStepWrong)

/-- 'laws.FnExactSumTurned': WHATEVER THE INPUT: true; the input reads as it did. -/
def fnExactSumTurnedSpec : ChangeSpec := { name := "fnExactSumTurned", fn := fun _ => fun
  | [d1, d2, d3] => { results := [.lit (.bool true)], args := [d1, d2, d3] }
  | _ => none }
def fnExactSumTurnedRow : OpenClaim := { program := "ytnmigkeejppndaa", sum := "d33497a475aaf7825cd25051014427d95d5090426087aca7c9cae0ac59fd0370", func := "loop.example/wholenet/laws.FnExactSumTurned", spec := "fnExactSumTurned", apart := false }
def FnExactSumTurnedSaid : Prop := fnExactSumTurnedRow.holds Try.pinned (OpenSpec.ofChange fnExactSumTurnedSpec)

/-- ITS FALSE NEIGHBOUR: 'it returns false'. Refute it at one input. -/
def fnExactSumTurnedWrong : ChangeSpec := { name := "fnExactSumTurned", fn := fun _ => fun
  | [d1, d2, d3] => { results := [.lit (.bool false)], args := [d1, d2, d3] }
  | _ => none }
def FnExactSumTurnedWrongFalsely : Prop := fnExactSumTurnedRow.holds Try.pinned (OpenSpec.ofChange fnExactSumTurnedWrong)

/-- 'laws.FnCrcStep': WHATEVER THE INPUT: true; the input reads as it did. -/
def fnCrcStepSpec : ChangeSpec := { name := "fnCrcStep", fn := fun _ => fun
  | [d] => { results := [.lit (.bool true)], args := [d] }
  | _ => none }
def fnCrcStepRow : OpenClaim := { program := "ytnmigkeejppndaa", sum := "d33497a475aaf7825cd25051014427d95d5090426087aca7c9cae0ac59fd0370", func := "loop.example/wholenet/laws.FnCrcStep", spec := "fnCrcStep", apart := false }
def FnCrcStepSaid : Prop := fnCrcStepRow.holds Try.pinned (OpenSpec.ofChange fnCrcStepSpec)

/-- ITS FALSE NEIGHBOUR: 'it returns false'. Refute it at one input. -/
def fnCrcStepWrong : ChangeSpec := { name := "fnCrcStep", fn := fun _ => fun
  | [d] => { results := [.lit (.bool false)], args := [d] }
  | _ => none }
def FnCrcStepWrongFalsely : Prop := fnCrcStepRow.holds Try.pinned (OpenSpec.ofChange fnCrcStepWrong)

/-- 'laws.FnExactSumOf': WHATEVER THE INPUT: true; the input reads as it did. -/
def fnExactSumOfSpec : ChangeSpec := { name := "fnExactSumOf", fn := fun _ => fun
  | [d] => { results := [.lit (.bool true)], args := [d] }
  | _ => none }
def fnExactSumOfRow : OpenClaim := { program := "ytnmigkeejppndaa", sum := "d33497a475aaf7825cd25051014427d95d5090426087aca7c9cae0ac59fd0370", func := "loop.example/wholenet/laws.FnExactSumOf", spec := "fnExactSumOf", apart := false }
def FnExactSumOfSaid : Prop := fnExactSumOfRow.holds Try.pinned (OpenSpec.ofChange fnExactSumOfSpec)

/-- ITS FALSE NEIGHBOUR: 'it returns false'. Refute it at one input. -/
def fnExactSumOfWrong : ChangeSpec := { name := "fnExactSumOf", fn := fun _ => fun
  | [d] => { results := [.lit (.bool false)], args := [d] }
  | _ => none }
def FnExactSumOfWrongFalsely : Prop := fnExactSumOfRow.holds Try.pinned (OpenSpec.ofChange fnExactSumOfWrong)

/-- 'laws.FnExactSumRight': WHATEVER THE INPUT: true; the input reads as it did. -/
def fnExactSumRightSpec : ChangeSpec := { name := "fnExactSumRight", fn := fun _ => fun
  | [d] => { results := [.lit (.bool true)], args := [d] }
  | _ => none }
def fnExactSumRightRow : OpenClaim := { program := "ytnmigkeejppndaa", sum := "d33497a475aaf7825cd25051014427d95d5090426087aca7c9cae0ac59fd0370", func := "loop.example/wholenet/laws.FnExactSumRight", spec := "fnExactSumRight", apart := false }
def FnExactSumRightSaid : Prop := fnExactSumRightRow.holds Try.pinned (OpenSpec.ofChange fnExactSumRightSpec)

/-- ITS FALSE NEIGHBOUR: 'it returns false'. Refute it at one input. -/
def fnExactSumRightWrong : ChangeSpec := { name := "fnExactSumRight", fn := fun _ => fun
  | [d] => { results := [.lit (.bool false)], args := [d] }
  | _ => none }
def FnExactSumRightWrongFalsely : Prop := fnExactSumRightRow.holds Try.pinned (OpenSpec.ofChange fnExactSumRightWrong)

/-- 'laws.FnExactCrcOf': WHATEVER THE INPUT: true; the input reads as it did. -/
def fnExactCrcOfSpec : ChangeSpec := { name := "fnExactCrcOf", fn := fun _ => fun
  | [d] => { results := [.lit (.bool true)], args := [d] }
  | _ => none }
def fnExactCrcOfRow : OpenClaim := { program := "ytnmigkeejppndaa", sum := "d33497a475aaf7825cd25051014427d95d5090426087aca7c9cae0ac59fd0370", func := "loop.example/wholenet/laws.FnExactCrcOf", spec := "fnExactCrcOf", apart := false }
def FnExactCrcOfSaid : Prop := fnExactCrcOfRow.holds Try.pinned (OpenSpec.ofChange fnExactCrcOfSpec)

/-- ITS FALSE NEIGHBOUR: 'it returns false'. Refute it at one input. -/
def fnExactCrcOfWrong : ChangeSpec := { name := "fnExactCrcOf", fn := fun _ => fun
  | [d] => { results := [.lit (.bool false)], args := [d] }
  | _ => none }
def FnExactCrcOfWrongFalsely : Prop := fnExactCrcOfRow.holds Try.pinned (OpenSpec.ofChange fnExactCrcOfWrong)

/-- 'laws.FnSumOrder': WHATEVER THE INPUT: true; the input reads as it did. -/
def fnSumOrderSpec : ChangeSpec := { name := "fnSumOrder", fn := fun _ => fun
  | [d] => { results := [.lit (.bool true)], args := [d] }
  | _ => none }
def fnSumOrderRow : OpenClaim := { program := "ytnmigkeejppndaa", sum := "d33497a475aaf7825cd25051014427d95d5090426087aca7c9cae0ac59fd0370", func := "loop.example/wholenet/laws.FnSumOrder", spec := "fnSumOrder", apart := false }
def FnSumOrderSaid : Prop := fnSumOrderRow.holds Try.pinned (OpenSpec.ofChange fnSumOrderSpec)

/-- ITS FALSE NEIGHBOUR: 'it returns false'. Refute it at one input. -/
def fnSumOrderWrong : ChangeSpec := { name := "fnSumOrder", fn := fun _ => fun
  | [d] => { results := [.lit (.bool false)], args := [d] }
  | _ => none }
def FnSumOrderWrongFalsely : Prop := fnSumOrderRow.holds Try.pinned (OpenSpec.ofChange fnSumOrderWrong)

/-- 'laws.FnCrcParts': WHATEVER THE INPUT: true; the input reads as it did. -/
def fnCrcPartsSpec : ChangeSpec := { name := "fnCrcParts", fn := fun _ => fun
  | [d] => { results := [.lit (.bool true)], args := [d] }
  | _ => none }
def fnCrcPartsRow : OpenClaim := { program := "ytnmigkeejppndaa", sum := "d33497a475aaf7825cd25051014427d95d5090426087aca7c9cae0ac59fd0370", func := "loop.example/wholenet/laws.FnCrcParts", spec := "fnCrcParts", apart := false }
def FnCrcPartsSaid : Prop := fnCrcPartsRow.holds Try.pinned (OpenSpec.ofChange fnCrcPartsSpec)

/-- ITS FALSE NEIGHBOUR: 'it returns false'. Refute it at one input. -/
def fnCrcPartsWrong : ChangeSpec := { name := "fnCrcParts", fn := fun _ => fun
  | [d] => { results := [.lit (.bool false)], args := [d] }
  | _ => none }
def FnCrcPartsWrongFalsely : Prop := fnCrcPartsRow.holds Try.pinned (OpenSpec.ofChange fnCrcPartsWrong)

/-- 'laws.FnSumTurned': WHATEVER THE INPUT: true; the input reads as it did. -/
def fnSumTurnedSpec : ChangeSpec := { name := "fnSumTurned", fn := fun _ => fun
  | [d1, d2] => { results := [.lit (.bool true)], args := [d1, d2] }
  | _ => none }
def fnSumTurnedRow : OpenClaim := { program := "ytnmigkeejppndaa", sum := "d33497a475aaf7825cd25051014427d95d5090426087aca7c9cae0ac59fd0370", func := "loop.example/wholenet/laws.FnSumTurned", spec := "fnSumTurned", apart := false }
def FnSumTurnedSaid : Prop := fnSumTurnedRow.holds Try.pinned (OpenSpec.ofChange fnSumTurnedSpec)

/-- ITS FALSE NEIGHBOUR: 'it returns false'. Refute it at one input. -/
def fnSumTurnedWrong : ChangeSpec := { name := "fnSumTurned", fn := fun _ => fun
  | [d1, d2] => { results := [.lit (.bool false)], args := [d1, d2] }
  | _ => none }
def FnSumTurnedWrongFalsely : Prop := fnSumTurnedRow.holds Try.pinned (OpenSpec.ofChange fnSumTurnedWrong)

/- THE SECOND FORM. 'bulk': how many values and letters a reading holds, each counted each time it is reached (what is shared counts as often as it is met; a slice's spare places count too). A statement '..UptoSaid' is the law's where the arguments, and the package variables that the reading takes, are together of bulk at most 1048576: NARROWER than '..Said'. Prove '..Said' where nothing that the law and all that it calls make is longer than what came in: it says more and counts as full. Else prove '..UptoSaid'. A law counts once. -/
mutual
def uptoBulk {H : Type} : DataW H → Nat
  | .lit (.string bytes) => bytes.length + 1
  | .lit _ => 1
  | .nil => 1
  | .ptr d => uptoBulk d + 1
  | .slice elems spare => uptoBulkAll elems + uptoBulkAll spare + 1
  | .agg parts => uptoBulkAll parts + 1
  | .iface _ d => uptoBulk d + 1
  | .map entries => uptoBulkEntries entries + 1
  | .held _ => 1
def uptoBulkAll {H : Type} : List (DataW H) → Nat
  | [] => 0
  | d :: r => uptoBulk d + uptoBulkAll r
def uptoBulkEntries {H : Type} : List (Lit × DataW H) → Nat
  | [] => 0
  | x :: r => uptoBulkEntry x + uptoBulkEntries r
def uptoBulkEntry {H : Type} : Lit × DataW H → Nat
  | (.string bytes, d) => bytes.length + uptoBulk d + 1
  | (_, d) => uptoBulk d + 1
 end
def uptoSmall : (H : Type) → List (DataW H) → Bool := fun _ ds => decide (uptoBulkAll ds ≤ 1048576)
def OpenSpec.upto (s : _root_.Go.ChangeSpec) : _root_.Go.OpenSpec := { _root_.Go.OpenSpec.ofChange s with cond := some uptoSmall }

/-- 'laws.FnExactConstants', WHERE WHAT IT READS IS OF BULK AT MOST 1048576: true; the input reads as it did. -/
def fnExactConstantsUptoRow : OpenClaim := { program := "ytnmigkeejppndaa", sum := "d33497a475aaf7825cd25051014427d95d5090426087aca7c9cae0ac59fd0370", func := "loop.example/wholenet/laws.FnExactConstants", spec := "fnExactConstants", apart := false, narrowed := true }
def FnExactConstantsUptoSaid : Prop := fnExactConstantsUptoRow.holds Try.pinned (OpenSpec.upto fnExactConstantsSpec)

/-- 'laws.FnExactCrcStep', WHERE WHAT IT READS IS OF BULK AT MOST 1048576: true; the input reads as it did. -/
def fnExactCrcStepUptoRow : OpenClaim := { program := "ytnmigkeejppndaa", sum := "d33497a475aaf7825cd25051014427d95d5090426087aca7c9cae0ac59fd0370", func := "loop.example/wholenet/laws.FnExactCrcStep", spec := "fnExactCrcStep", apart := false, narrowed := true }
def FnExactCrcStepUptoSaid : Prop := fnExactCrcStepUptoRow.holds Try.pinned (OpenSpec.upto fnExactCrcStepSpec)

/-- 'laws.FnExactSumTurned', WHERE WHAT IT READS IS OF BULK AT MOST 1048576: true; the input reads as it did. -/
def fnExactSumTurnedUptoRow : OpenClaim := { program := "ytnmigkeejppndaa", sum := "d33497a475aaf7825cd25051014427d95d5090426087aca7c9cae0ac59fd0370", func := "loop.example/wholenet/laws.FnExactSumTurned", spec := "fnExactSumTurned", apart := false, narrowed := true }
def FnExactSumTurnedUptoSaid : Prop := fnExactSumTurnedUptoRow.holds Try.pinned (OpenSpec.upto fnExactSumTurnedSpec)

/-- 'laws.FnCrcStep', WHERE WHAT IT READS IS OF BULK AT MOST 1048576: true; the input reads as it did. -/
def fnCrcStepUptoRow : OpenClaim := { program := "ytnmigkeejppndaa", sum := "d33497a475aaf7825cd25051014427d95d5090426087aca7c9cae0ac59fd0370", func := "loop.example/wholenet/laws.FnCrcStep", spec := "fnCrcStep", apart := false, narrowed := true }
def FnCrcStepUptoSaid : Prop := fnCrcStepUptoRow.holds Try.pinned (OpenSpec.upto fnCrcStepSpec)

/-- 'laws.FnExactSumOf', WHERE WHAT IT READS IS OF BULK AT MOST 1048576: true; the input reads as it did. -/
def fnExactSumOfUptoRow : OpenClaim := { program := "ytnmigkeejppndaa", sum := "d33497a475aaf7825cd25051014427d95d5090426087aca7c9cae0ac59fd0370", func := "loop.example/wholenet/laws.FnExactSumOf", spec := "fnExactSumOf", apart := false, narrowed := true }
def FnExactSumOfUptoSaid : Prop := fnExactSumOfUptoRow.holds Try.pinned (OpenSpec.upto fnExactSumOfSpec)

/-- 'laws.FnExactSumRight', WHERE WHAT IT READS IS OF BULK AT MOST 1048576: true; the input reads as it did. -/
def fnExactSumRightUptoRow : OpenClaim := { program := "ytnmigkeejppndaa", sum := "d33497a475aaf7825cd25051014427d95d5090426087aca7c9cae0ac59fd0370", func := "loop.example/wholenet/laws.FnExactSumRight", spec := "fnExactSumRight", apart := false, narrowed := true }
def FnExactSumRightUptoSaid : Prop := fnExactSumRightUptoRow.holds Try.pinned (OpenSpec.upto fnExactSumRightSpec)

/-- 'laws.FnExactCrcOf', WHERE WHAT IT READS IS OF BULK AT MOST 1048576: true; the input reads as it did. -/
def fnExactCrcOfUptoRow : OpenClaim := { program := "ytnmigkeejppndaa", sum := "d33497a475aaf7825cd25051014427d95d5090426087aca7c9cae0ac59fd0370", func := "loop.example/wholenet/laws.FnExactCrcOf", spec := "fnExactCrcOf", apart := false, narrowed := true }
def FnExactCrcOfUptoSaid : Prop := fnExactCrcOfUptoRow.holds Try.pinned (OpenSpec.upto fnExactCrcOfSpec)

/-- 'laws.FnSumOrder', WHERE WHAT IT READS IS OF BULK AT MOST 1048576: true; the input reads as it did. -/
def fnSumOrderUptoRow : OpenClaim := { program := "ytnmigkeejppndaa", sum := "d33497a475aaf7825cd25051014427d95d5090426087aca7c9cae0ac59fd0370", func := "loop.example/wholenet/laws.FnSumOrder", spec := "fnSumOrder", apart := false, narrowed := true }
def FnSumOrderUptoSaid : Prop := fnSumOrderUptoRow.holds Try.pinned (OpenSpec.upto fnSumOrderSpec)

/-- 'laws.FnCrcParts', WHERE WHAT IT READS IS OF BULK AT MOST 1048576: true; the input reads as it did. -/
def fnCrcPartsUptoRow : OpenClaim := { program := "ytnmigkeejppndaa", sum := "d33497a475aaf7825cd25051014427d95d5090426087aca7c9cae0ac59fd0370", func := "loop.example/wholenet/laws.FnCrcParts", spec := "fnCrcParts", apart := false, narrowed := true }
def FnCrcPartsUptoSaid : Prop := fnCrcPartsUptoRow.holds Try.pinned (OpenSpec.upto fnCrcPartsSpec)

/-- 'laws.FnSumTurned', WHERE WHAT IT READS IS OF BULK AT MOST 1048576: true; the input reads as it did. -/
def fnSumTurnedUptoRow : OpenClaim := { program := "ytnmigkeejppndaa", sum := "d33497a475aaf7825cd25051014427d95d5090426087aca7c9cae0ac59fd0370", func := "loop.example/wholenet/laws.FnSumTurned", spec := "fnSumTurned", apart := false, narrowed := true }
def FnSumTurnedUptoSaid : Prop := fnSumTurnedUptoRow.holds Try.pinned (OpenSpec.upto fnSumTurnedSpec)

end Rows
end Go.Proofs.Ytnmigkeejppndaa
