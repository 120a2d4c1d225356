/-
  NARROWER THAN 'FOR EVERY INPUT', by the rows' own cells (each row's printed sentence says how): FnExactEncodeNibble: maps, laid · FnExactDecodeNibble: maps, laid · FnNibble: maps, laid · FnNibbleFar: maps, laid · FnExactEncodeBytes: maps, laid · FnExactDecodeBytes: maps, laid · FnCodeBack: maps, laid · FnDecodeBytes: maps, laid.
  DERIVED. THE GIVEN ROWS OF THIS SEAT. 8 by the template 'for every input the law returns true; each argument reads behind the call as it read before'; 0 by the template 'total and deterministic' (their statements: YtpifogfnafogaaaDoorTotals.lean).
  GIVEN WITH THE SEED: the statements are not yours to turn. If you find one false, say at which input.
  Laid BY PROGRAM, IN A SANDBOX (cutbox-rows.mjs): the forced cells as the released guide's own fill.sh prints them over the translation 451d266e2a84e9b5… (all of the seat's roots in one cut). By AI agents, Wed Nov 11 2026. No macro, syntax, notation, axiom, sorry.
-/
import Derived.Test.YtpifogfnafogaaaDoorChecked
import GoSem.Claim
import GoSem.ClaimJoined
import GoSem.ClaimMapViews
import Derived.JoinedTies
import Derived.KernelRfl
namespace Go.Proofs.YtpifogfnafogaaaDoor
/- THE CELL 'sum', in the pinned program and in every row, IS THE sha256 OF THE DUMP (.gsa) THAT YtpifogfnafogaaaDoorProg.lean LOADS. Nothing in Lean hashes anything: it is a label: what it is worth is what the hold of that sum in a sandbox is worth. -/
noncomputable def Tryd.pinned : Pinned := { name := "ytpifogfnafogaaadoor", sum := "451d266e2a84e9b575dcd8219ab2a23a7871ca76dc25f111cdd5bb6b320dc6c2", checked := Tryd.checked }
namespace Rows
def none {H : Type} : Left H := { results := [], args := [] }

/- WHAT THE LISTED PACKAGE-LEVEL VARIABLES READ AS WHEN THE CALL BEGINS. Each datum BY PROGRAM (the guide's laid-datum.mjs) off the statement by which the dump's own 'gosem.cut.vars' lays the variable. In a bare row this is a premise. The card (YtpifogfnafogaaaDoorCards.lean) ties it to the program's text. -/
def laid_loop_example_wholenet_impl_rules {H : Type} : DataW H := .map [(.int .i64 1, .slice [.lit (.int .i64 3), .lit (.int .i64 5), .lit (.int .i64 7)] []), (.int .i64 2, .slice [.lit (.int .i64 3), .lit (.int .i64 6), .lit (.int .i64 7)] []), (.int .i64 4, .slice [.lit (.int .i64 5), .lit (.int .i64 6), .lit (.int .i64 7)] [])]

/-- 'laws.FnExactEncodeNibble': WHATEVER THE INPUT: true; the input reads as it did. -/
def fnExactEncodeNibbleSpec : ChangeSpec := { name := "fnExactEncodeNibble", vars := ["loop.example/wholenet/impl.rules"], fn := fun _ => fun
  | [d, g1] => { results := [.lit (.bool true)], args := [d], vars := [g1] }
  | _ => none }
def fnExactEncodeNibbleRow : OpenClaim := { program := "ytpifogfnafogaaadoor", sum := "451d266e2a84e9b575dcd8219ab2a23a7871ca76dc25f111cdd5bb6b320dc6c2", func := "loop.example/wholenet/laws.FnExactEncodeNibble", spec := "fnExactEncodeNibble", named := ["loop.example/wholenet/impl.rules"], maps := true, apart := false, laid := [("loop.example/wholenet/impl.rules", laid_loop_example_wholenet_impl_rules)] }
def FnExactEncodeNibbleSaid : Prop := fnExactEncodeNibbleRow.holds Tryd.pinned (OpenSpec.ofChange fnExactEncodeNibbleSpec)

/-- ITS FALSE NEIGHBOUR: 'it returns false'. Refute it at one input. -/
def fnExactEncodeNibbleWrong : ChangeSpec := { name := "fnExactEncodeNibble", vars := ["loop.example/wholenet/impl.rules"], fn := fun _ => fun
  | [d, g1] => { results := [.lit (.bool false)], args := [d], vars := [g1] }
  | _ => none }
def FnExactEncodeNibbleWrongFalsely : Prop := fnExactEncodeNibbleRow.holds Tryd.pinned (OpenSpec.ofChange fnExactEncodeNibbleWrong)

/-- 'laws.FnExactDecodeNibble': WHATEVER THE INPUT: true; the input reads as it did. -/
def fnExactDecodeNibbleSpec : ChangeSpec := { name := "fnExactDecodeNibble", vars := ["loop.example/wholenet/impl.rules"], fn := fun _ => fun
  | [d, g1] => { results := [.lit (.bool true)], args := [d], vars := [g1] }
  | _ => none }
def fnExactDecodeNibbleRow : OpenClaim := { program := "ytpifogfnafogaaadoor", sum := "451d266e2a84e9b575dcd8219ab2a23a7871ca76dc25f111cdd5bb6b320dc6c2", func := "loop.example/wholenet/laws.FnExactDecodeNibble", spec := "fnExactDecodeNibble", named := ["loop.example/wholenet/impl.rules"], maps := true, apart := false, laid := [("loop.example/wholenet/impl.rules", laid_loop_example_wholenet_impl_rules)] }
def FnExactDecodeNibbleSaid : Prop := fnExactDecodeNibbleRow.holds Tryd.pinned (OpenSpec.ofChange fnExactDecodeNibbleSpec)

/-- ITS FALSE NEIGHBOUR: 'it returns false'. Refute it at one input. -/
def fnExactDecodeNibbleWrong : ChangeSpec := { name := "fnExactDecodeNibble", vars := ["loop.example/wholenet/impl.rules"], fn := fun _ => fun
  | [d, g1] => { results := [.lit (.bool false)], args := [d], vars := [g1] }
  | _ => none }
def FnExactDecodeNibbleWrongFalsely : Prop := fnExactDecodeNibbleRow.holds Tryd.pinned (OpenSpec.ofChange fnExactDecodeNibbleWrong)

/-- 'laws.FnNibble': WHATEVER THE INPUT: true; the input reads as it did. -/
def fnNibbleSpec : ChangeSpec := { name := "fnNibble", vars := ["loop.example/wholenet/impl.rules"], fn := fun _ => fun
  | [d, g1] => { results := [.lit (.bool true)], args := [d], vars := [g1] }
  | _ => none }
def fnNibbleRow : OpenClaim := { program := "ytpifogfnafogaaadoor", sum := "451d266e2a84e9b575dcd8219ab2a23a7871ca76dc25f111cdd5bb6b320dc6c2", func := "loop.example/wholenet/laws.FnNibble", spec := "fnNibble", named := ["loop.example/wholenet/impl.rules"], maps := true, apart := false, laid := [("loop.example/wholenet/impl.rules", laid_loop_example_wholenet_impl_rules)] }
def FnNibbleSaid : Prop := fnNibbleRow.holds Tryd.pinned (OpenSpec.ofChange fnNibbleSpec)

/-- ITS FALSE NEIGHBOUR: 'it returns false'. Refute it at one input. -/
def fnNibbleWrong : ChangeSpec := { name := "fnNibble", vars := ["loop.example/wholenet/impl.rules"], fn := fun _ => fun
  | [d, g1] => { results := [.lit (.bool false)], args := [d], vars := [g1] }
  | _ => none }
def FnNibbleWrongFalsely : Prop := fnNibbleRow.holds Tryd.pinned (OpenSpec.ofChange fnNibbleWrong)

/-- 'laws.FnNibbleFar': WHATEVER THE INPUT: true; the input reads as it did. -/
def fnNibbleFarSpec : ChangeSpec := { name := "fnNibbleFar", vars := ["loop.example/wholenet/impl.rules"], fn := fun _ => fun
  | [d, g1] => { results := [.lit (.bool true)], args := [d], vars := [g1] }
  | _ => none }
def fnNibbleFarRow : OpenClaim := { program := "ytpifogfnafogaaadoor", sum := "451d266e2a84e9b575dcd8219ab2a23a7871ca76dc25f111cdd5bb6b320dc6c2", func := "loop.example/wholenet/laws.FnNibbleFar", spec := "fnNibbleFar", named := ["loop.example/wholenet/impl.rules"], maps := true, apart := false, laid := [("loop.example/wholenet/impl.rules", laid_loop_example_wholenet_impl_rules)] }
def FnNibbleFarSaid : Prop := fnNibbleFarRow.holds Tryd.pinned (OpenSpec.ofChange fnNibbleFarSpec)

/-- ITS FALSE NEIGHBOUR: 'it returns false'. Refute it at one input. -/
def fnNibbleFarWrong : ChangeSpec := { name := "fnNibbleFar", vars := ["loop.example/wholenet/impl.rules"], fn := fun _ => fun
  | [d, g1] => { results := [.lit (.bool false)], args := [d], vars := [g1] }
  | _ => none }
def FnNibbleFarWrongFalsely : Prop := fnNibbleFarRow.holds Tryd.pinned (OpenSpec.ofChange fnNibbleFarWrong)

/-- 'laws.FnExactEncodeBytes': WHATEVER THE INPUT: true; the input reads as it did. -/
def fnExactEncodeBytesSpec : ChangeSpec := { name := "fnExactEncodeBytes", vars := ["loop.example/wholenet/impl.rules"], fn := fun _ => fun
  | [d, g1] => { results := [.lit (.bool true)], args := [d], vars := [g1] }
  | _ => none }
def fnExactEncodeBytesRow : OpenClaim := { program := "ytpifogfnafogaaadoor", sum := "451d266e2a84e9b575dcd8219ab2a23a7871ca76dc25f111cdd5bb6b320dc6c2", func := "loop.example/wholenet/laws.FnExactEncodeBytes", spec := "fnExactEncodeBytes", named := ["loop.example/wholenet/impl.rules"], maps := true, apart := false, laid := [("loop.example/wholenet/impl.rules", laid_loop_example_wholenet_impl_rules)] }
def FnExactEncodeBytesSaid : Prop := fnExactEncodeBytesRow.holds Tryd.pinned (OpenSpec.ofChange fnExactEncodeBytesSpec)

/-- ITS FALSE NEIGHBOUR: 'it returns false'. Refute it at one input. -/
def fnExactEncodeBytesWrong : ChangeSpec := { name := "fnExactEncodeBytes", vars := ["loop.example/wholenet/impl.rules"], fn := fun _ => fun
  | [d, g1] => { results := [.lit (.bool false)], args := [d], vars := [g1] }
  | _ => none }
def FnExactEncodeBytesWrongFalsely : Prop := fnExactEncodeBytesRow.holds Tryd.pinned (OpenSpec.ofChange fnExactEncodeBytesWrong)

/-- 'laws.FnExactDecodeBytes': WHATEVER THE INPUT: true; the input reads as it did. -/
def fnExactDecodeBytesSpec : ChangeSpec := { name := "fnExactDecodeBytes", vars := ["loop.example/wholenet/impl.rules"], fn := fun _ => fun
  | [d, g1] => { results := [.lit (.bool true)], args := [d], vars := [g1] }
  | _ => none }
def fnExactDecodeBytesRow : OpenClaim := { program := "ytpifogfnafogaaadoor", sum := "451d266e2a84e9b575dcd8219ab2a23a7871ca76dc25f111cdd5bb6b320dc6c2", func := "loop.example/wholenet/laws.FnExactDecodeBytes", spec := "fnExactDecodeBytes", unfollowed := true, recurses := true, named := ["loop.example/wholenet/impl.rules"], maps := true, apart := false, laid := [("loop.example/wholenet/impl.rules", laid_loop_example_wholenet_impl_rules)] }
def FnExactDecodeBytesSaid : Prop := fnExactDecodeBytesRow.holds Tryd.pinned (OpenSpec.ofChange fnExactDecodeBytesSpec)

/-- ITS FALSE NEIGHBOUR: 'it returns false'. Refute it at one input. -/
def fnExactDecodeBytesWrong : ChangeSpec := { name := "fnExactDecodeBytes", vars := ["loop.example/wholenet/impl.rules"], fn := fun _ => fun
  | [d, g1] => { results := [.lit (.bool false)], args := [d], vars := [g1] }
  | _ => none }
def FnExactDecodeBytesWrongFalsely : Prop := fnExactDecodeBytesRow.holds Tryd.pinned (OpenSpec.ofChange fnExactDecodeBytesWrong)

/-- 'laws.FnCodeBack': WHATEVER THE INPUT: true; the input reads as it did. -/
def fnCodeBackSpec : ChangeSpec := { name := "fnCodeBack", vars := ["loop.example/wholenet/impl.rules"], fn := fun _ => fun
  | [d, g1] => { results := [.lit (.bool true)], args := [d], vars := [g1] }
  | _ => none }
def fnCodeBackRow : OpenClaim := { program := "ytpifogfnafogaaadoor", sum := "451d266e2a84e9b575dcd8219ab2a23a7871ca76dc25f111cdd5bb6b320dc6c2", func := "loop.example/wholenet/laws.FnCodeBack", spec := "fnCodeBack", unfollowed := true, recurses := true, named := ["loop.example/wholenet/impl.rules"], maps := true, apart := false, laid := [("loop.example/wholenet/impl.rules", laid_loop_example_wholenet_impl_rules)] }
def FnCodeBackSaid : Prop := fnCodeBackRow.holds Tryd.pinned (OpenSpec.ofChange fnCodeBackSpec)

/-- ITS FALSE NEIGHBOUR: 'it returns false'. Refute it at one input. -/
def fnCodeBackWrong : ChangeSpec := { name := "fnCodeBack", vars := ["loop.example/wholenet/impl.rules"], fn := fun _ => fun
  | [d, g1] => { results := [.lit (.bool false)], args := [d], vars := [g1] }
  | _ => none }
def FnCodeBackWrongFalsely : Prop := fnCodeBackRow.holds Tryd.pinned (OpenSpec.ofChange fnCodeBackWrong)

/-- 'laws.FnDecodeBytes': WHATEVER THE INPUT: true; the input reads as it did. -/
def fnDecodeBytesSpec : ChangeSpec := { name := "fnDecodeBytes", vars := ["loop.example/wholenet/impl.rules"], fn := fun _ => fun
  | [d, g1] => { results := [.lit (.bool true)], args := [d], vars := [g1] }
  | _ => none }
def fnDecodeBytesRow : OpenClaim := { program := "ytpifogfnafogaaadoor", sum := "451d266e2a84e9b575dcd8219ab2a23a7871ca76dc25f111cdd5bb6b320dc6c2", func := "loop.example/wholenet/laws.FnDecodeBytes", spec := "fnDecodeBytes", unfollowed := true, recurses := true, named := ["loop.example/wholenet/impl.rules"], maps := true, apart := false, laid := [("loop.example/wholenet/impl.rules", laid_loop_example_wholenet_impl_rules)] }
def FnDecodeBytesSaid : Prop := fnDecodeBytesRow.holds Tryd.pinned (OpenSpec.ofChange fnDecodeBytesSpec)

/-- ITS FALSE NEIGHBOUR: 'it returns false'. Refute it at one input. -/
def fnDecodeBytesWrong : ChangeSpec := { name := "fnDecodeBytes", vars := ["loop.example/wholenet/impl.rules"], fn := fun _ => fun
  | [d, g1] => { results := [.lit (.bool false)], args := [d], vars := [g1] }
  | _ => none }
def FnDecodeBytesWrongFalsely : Prop := fnDecodeBytesRow.holds Tryd.pinned (OpenSpec.ofChange fnDecodeBytesWrong)

/- THE SECOND FORM. 'bulk': how many values and letters a reading holds, each counted each time it is reached (what is shared counts as often as it is met; a slice's spare places count too). A statement '..UptoSaid' is the law's where the arguments, and the package variables that the reading takes, are together of bulk at most 1048576: NARROWER than '..Said'. Prove '..Said' where nothing that the law and all that it calls make is longer than what came in: it says more and counts as full. Else prove '..UptoSaid'. A law counts once. -/
mutual
def uptoBulk {H : Type} : DataW H → Nat
  | .lit (.string bytes) => bytes.length + 1
  | .lit _ => 1
  | .nil => 1
  | .ptr d => uptoBulk d + 1
  | .slice elems spare => uptoBulkAll elems + uptoBulkAll spare + 1
  | .agg parts => uptoBulkAll parts + 1
  | .iface _ d => uptoBulk d + 1
  | .map entries => uptoBulkEntries entries + 1
  | .held _ => 1
def uptoBulkAll {H : Type} : List (DataW H) → Nat
  | [] => 0
  | d :: r => uptoBulk d + uptoBulkAll r
def uptoBulkEntries {H : Type} : List (Lit × DataW H) → Nat
  | [] => 0
  | x :: r => uptoBulkEntry x + uptoBulkEntries r
def uptoBulkEntry {H : Type} : Lit × DataW H → Nat
  | (.string bytes, d) => bytes.length + uptoBulk d + 1
  | (_, d) => uptoBulk d + 1
 end
def uptoSmall : (H : Type) → List (DataW H) → Bool := fun _ ds => decide (uptoBulkAll ds ≤ 1048576)
def OpenSpec.upto (s : _root_.Go.ChangeSpec) : _root_.Go.OpenSpec := { _root_.Go.OpenSpec.ofChange s with cond := some uptoSmall }

/-- 'laws.FnExactEncodeNibble', WHERE WHAT IT READS IS OF BULK AT MOST 1048576: true; the input reads as it did. -/
def fnExactEncodeNibbleUptoRow : OpenClaim := { program := "ytpifogfnafogaaadoor", sum := "451d266e2a84e9b575dcd8219ab2a23a7871ca76dc25f111cdd5bb6b320dc6c2", func := "loop.example/wholenet/laws.FnExactEncodeNibble", spec := "fnExactEncodeNibble", named := ["loop.example/wholenet/impl.rules"], maps := true, apart := false, laid := [("loop.example/wholenet/impl.rules", laid_loop_example_wholenet_impl_rules)], narrowed := true }
def FnExactEncodeNibbleUptoSaid : Prop := fnExactEncodeNibbleUptoRow.holds Tryd.pinned (OpenSpec.upto fnExactEncodeNibbleSpec)

/-- 'laws.FnExactDecodeNibble', WHERE WHAT IT READS IS OF BULK AT MOST 1048576: true; the input reads as it did. -/
def fnExactDecodeNibbleUptoRow : OpenClaim := { program := "ytpifogfnafogaaadoor", sum := "451d266e2a84e9b575dcd8219ab2a23a7871ca76dc25f111cdd5bb6b320dc6c2", func := "loop.example/wholenet/laws.FnExactDecodeNibble", spec := "fnExactDecodeNibble", named := ["loop.example/wholenet/impl.rules"], maps := true, apart := false, laid := [("loop.example/wholenet/impl.rules", laid_loop_example_wholenet_impl_rules)], narrowed := true }
def FnExactDecodeNibbleUptoSaid : Prop := fnExactDecodeNibbleUptoRow.holds Tryd.pinned (OpenSpec.upto fnExactDecodeNibbleSpec)

/-- 'laws.FnNibble', WHERE WHAT IT READS IS OF BULK AT MOST 1048576: true; the input reads as it did. -/
def fnNibbleUptoRow : OpenClaim := { program := "ytpifogfnafogaaadoor", sum := "451d266e2a84e9b575dcd8219ab2a23a7871ca76dc25f111cdd5bb6b320dc6c2", func := "loop.example/wholenet/laws.FnNibble", spec := "fnNibble", named := ["loop.example/wholenet/impl.rules"], maps := true, apart := false, laid := [("loop.example/wholenet/impl.rules", laid_loop_example_wholenet_impl_rules)], narrowed := true }
def FnNibbleUptoSaid : Prop := fnNibbleUptoRow.holds Tryd.pinned (OpenSpec.upto fnNibbleSpec)

/-- 'laws.FnNibbleFar', WHERE WHAT IT READS IS OF BULK AT MOST 1048576: true; the input reads as it did. -/
def fnNibbleFarUptoRow : OpenClaim := { program := "ytpifogfnafogaaadoor", sum := "451d266e2a84e9b575dcd8219ab2a23a7871ca76dc25f111cdd5bb6b320dc6c2", func := "loop.example/wholenet/laws.FnNibbleFar", spec := "fnNibbleFar", named := ["loop.example/wholenet/impl.rules"], maps := true, apart := false, laid := [("loop.example/wholenet/impl.rules", laid_loop_example_wholenet_impl_rules)], narrowed := true }
def FnNibbleFarUptoSaid : Prop := fnNibbleFarUptoRow.holds Tryd.pinned (OpenSpec.upto fnNibbleFarSpec)

/-- 'laws.FnExactEncodeBytes', WHERE WHAT IT READS IS OF BULK AT MOST 1048576: true; the input reads as it did. -/
def fnExactEncodeBytesUptoRow : OpenClaim := { program := "ytpifogfnafogaaadoor", sum := "451d266e2a84e9b575dcd8219ab2a23a7871ca76dc25f111cdd5bb6b320dc6c2", func := "loop.example/wholenet/laws.FnExactEncodeBytes", spec := "fnExactEncodeBytes", named := ["loop.example/wholenet/impl.rules"], maps := true, apart := false, laid := [("loop.example/wholenet/impl.rules", laid_loop_example_wholenet_impl_rules)], narrowed := true }
def FnExactEncodeBytesUptoSaid : Prop := fnExactEncodeBytesUptoRow.holds Tryd.pinned (OpenSpec.upto fnExactEncodeBytesSpec)

/-- 'laws.FnExactDecodeBytes', WHERE WHAT IT READS IS OF BULK AT MOST 1048576: true; the input reads as it did. -/
def fnExactDecodeBytesUptoRow : OpenClaim := { program := "ytpifogfnafogaaadoor", sum := "451d266e2a84e9b575dcd8219ab2a23a7871ca76dc25f111cdd5bb6b320dc6c2", func := "loop.example/wholenet/laws.FnExactDecodeBytes", spec := "fnExactDecodeBytes", unfollowed := true, recurses := true, named := ["loop.example/wholenet/impl.rules"], maps := true, apart := false, laid := [("loop.example/wholenet/impl.rules", laid_loop_example_wholenet_impl_rules)], narrowed := true }
def FnExactDecodeBytesUptoSaid : Prop := fnExactDecodeBytesUptoRow.holds Tryd.pinned (OpenSpec.upto fnExactDecodeBytesSpec)

/-- 'laws.FnCodeBack', WHERE WHAT IT READS IS OF BULK AT MOST 1048576: true; the input reads as it did. -/
def fnCodeBackUptoRow : OpenClaim := { program := "ytpifogfnafogaaadoor", sum := "451d266e2a84e9b575dcd8219ab2a23a7871ca76dc25f111cdd5bb6b320dc6c2", func := "loop.example/wholenet/laws.FnCodeBack", spec := "fnCodeBack", unfollowed := true, recurses := true, named := ["loop.example/wholenet/impl.rules"], maps := true, apart := false, laid := [("loop.example/wholenet/impl.rules", laid_loop_example_wholenet_impl_rules)], narrowed := true }
def FnCodeBackUptoSaid : Prop := fnCodeBackUptoRow.holds Tryd.pinned (OpenSpec.upto fnCodeBackSpec)

/-- 'laws.FnDecodeBytes', WHERE WHAT IT READS IS OF BULK AT MOST 1048576: true; the input reads as it did. -/
def fnDecodeBytesUptoRow : OpenClaim := { program := "ytpifogfnafogaaadoor", sum := "451d266e2a84e9b575dcd8219ab2a23a7871ca76dc25f111cdd5bb6b320dc6c2", func := "loop.example/wholenet/laws.FnDecodeBytes", spec := "fnDecodeBytes", unfollowed := true, recurses := true, named := ["loop.example/wholenet/impl.rules"], maps := true, apart := false, laid := [("loop.example/wholenet/impl.rules", laid_loop_example_wholenet_impl_rules)], narrowed := true }
def FnDecodeBytesUptoSaid : Prop := fnDecodeBytesUptoRow.holds Tryd.pinned (OpenSpec.upto fnDecodeBytesSpec)

end Rows
end Go.Proofs.YtpifogfnafogaaaDoor
