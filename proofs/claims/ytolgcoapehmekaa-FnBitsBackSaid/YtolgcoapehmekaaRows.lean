/-
  No cell of these rows narrows 'for every input' (looked for: loops, veiled, ifaces, maps, wideKeys, modest, calm, conditions, laid).
  DERIVED. THE GIVEN ROWS OF THIS SEAT. 9 by the template 'for every input the law returns true; each argument reads behind the call as it read before'; 0 by the template 'total and deterministic' (their statements: YtolgcoapehmekaaTotals.lean).
  GIVEN WITH THE SEED: the statements are not yours to turn. If you find one false, say at which input.
  Laid BY PROGRAM, IN A SANDBOX (cutbox-rows.mjs): the forced cells as the released guide's own fill.sh prints them over the translation 263f91d18502bc9a… (all of the seat's roots in one cut). By AI agents, Wed Nov 11 2026. No macro, syntax, notation, axiom, sorry.
-/
import Derived.Test.YtolgcoapehmekaaChecked
import GoSem.Claim
import GoSem.ClaimJoined
import GoSem.ClaimMapViews
import Derived.JoinedTies
import Derived.KernelRfl
namespace Go.Proofs.Ytolgcoapehmekaa
/- THE CELL 'sum', in the pinned program and in every row, IS THE sha256 OF THE DUMP (.gsa) THAT YtolgcoapehmekaaProg.lean LOADS. Nothing in Lean hashes anything: it is a label: what it is worth is what the hold of that sum in a sandbox is worth. -/
noncomputable def Try.pinned : Pinned := { name := "ytolgcoapehmekaa", sum := "263f91d18502bc9aa6c8b4ad8be89049ffccdbac6bf61a9f77388bdc23418271", checked := Try.checked }
namespace Rows
def none {H : Type} : Left H := { results := [], args := [] }

/-- 'laws.FnExactParityOf': WHATEVER THE INPUT: true; the input reads as it did. -/
def fnExactParityOfSpec : ChangeSpec := { name := "fnExactParityOf", fn := fun _ => fun
  | [d] => { results := [.lit (.bool true)], args := [d] }
  | _ => none }
def fnExactParityOfRow : OpenClaim := { program := "ytolgcoapehmekaa", sum := "263f91d18502bc9aa6c8b4ad8be89049ffccdbac6bf61a9f77388bdc23418271", func := "loop.example/wholenet/laws.FnExactParityOf", spec := "fnExactParityOf", apart := false }
def FnExactParityOfSaid : Prop := fnExactParityOfRow.holds Try.pinned (OpenSpec.ofChange fnExactParityOfSpec)

/-- ITS FALSE NEIGHBOUR: 'it returns false'. Refute it at one input. -/
def fnExactParityOfWrong : ChangeSpec := { name := "fnExactParityOf", fn := fun _ => fun
  | [d] => { results := [.lit (.bool false)], args := [d] }
  | _ => none }
def FnExactParityOfWrongFalsely : Prop := fnExactParityOfRow.holds Try.pinned (OpenSpec.ofChange fnExactParityOfWrong)

/-- 'laws.FnExactDistance': WHATEVER THE INPUT: true; the input reads as it did. -/
def fnExactDistanceSpec : ChangeSpec := { name := "fnExactDistance", fn := fun _ => fun
  | [d1, d2] => { results := [.lit (.bool true)], args := [d1, d2] }
  | _ => none }
def fnExactDistanceRow : OpenClaim := { program := "ytolgcoapehmekaa", sum := "263f91d18502bc9aa6c8b4ad8be89049ffccdbac6bf61a9f77388bdc23418271", func := "loop.example/wholenet/laws.FnExactDistance", spec := "fnExactDistance", apart := false }
def FnExactDistanceSaid : Prop := fnExactDistanceRow.holds Try.pinned (OpenSpec.ofChange fnExactDistanceSpec)

/-- ITS FALSE NEIGHBOUR: 'it returns false'. Refute it at one input. -/
def fnExactDistanceWrong : ChangeSpec := { name := "fnExactDistance", fn := fun _ => fun
  | [d1, d2] => { results := [.lit (.bool false)], args := [d1, d2] }
  | _ => none }
def FnExactDistanceWrongFalsely : Prop := fnExactDistanceRow.holds Try.pinned (OpenSpec.ofChange fnExactDistanceWrong)

/-- 'laws.FnExactFlipBit': WHATEVER THE INPUT: true; the input reads as it did. -/
def fnExactFlipBitSpec : ChangeSpec := { name := "fnExactFlipBit", fn := fun _ => fun
  | [d1, d2] => { results := [.lit (.bool true)], args := [d1, d2] }
  | _ => none }
def fnExactFlipBitRow : OpenClaim := { program := "ytolgcoapehmekaa", sum := "263f91d18502bc9aa6c8b4ad8be89049ffccdbac6bf61a9f77388bdc23418271", func := "loop.example/wholenet/laws.FnExactFlipBit", spec := "fnExactFlipBit", apart := false }
def FnExactFlipBitSaid : Prop := fnExactFlipBitRow.holds Try.pinned (OpenSpec.ofChange fnExactFlipBitSpec)

/-- ITS FALSE NEIGHBOUR: 'it returns false'. Refute it at one input. -/
def fnExactFlipBitWrong : ChangeSpec := { name := "fnExactFlipBit", fn := fun _ => fun
  | [d1, d2] => { results := [.lit (.bool false)], args := [d1, d2] }
  | _ => none }
def FnExactFlipBitWrongFalsely : Prop := fnExactFlipBitRow.holds Try.pinned (OpenSpec.ofChange fnExactFlipBitWrong)

/-- 'laws.FnExactBitsOf': WHATEVER THE INPUT: true; the input reads as it did. -/
def fnExactBitsOfSpec : ChangeSpec := { name := "fnExactBitsOf", fn := fun _ => fun
  | [d] => { results := [.lit (.bool true)], args := [d] }
  | _ => none }
def fnExactBitsOfRow : OpenClaim := { program := "ytolgcoapehmekaa", sum := "263f91d18502bc9aa6c8b4ad8be89049ffccdbac6bf61a9f77388bdc23418271", func := "loop.example/wholenet/laws.FnExactBitsOf", spec := "fnExactBitsOf", apart := false }
def FnExactBitsOfSaid : Prop := fnExactBitsOfRow.holds Try.pinned (OpenSpec.ofChange fnExactBitsOfSpec)

/-- ITS FALSE NEIGHBOUR: 'it returns false'. Refute it at one input. -/
def fnExactBitsOfWrong : ChangeSpec := { name := "fnExactBitsOf", fn := fun _ => fun
  | [d] => { results := [.lit (.bool false)], args := [d] }
  | _ => none }
def FnExactBitsOfWrongFalsely : Prop := fnExactBitsOfRow.holds Try.pinned (OpenSpec.ofChange fnExactBitsOfWrong)

/-- 'laws.FnDistance': WHATEVER THE INPUT: true; the input reads as it did. -/
def fnDistanceSpec : ChangeSpec := { name := "fnDistance", fn := fun _ => fun
  | [d1, d2] => { results := [.lit (.bool true)], args := [d1, d2] }
  | _ => none }
def fnDistanceRow : OpenClaim := { program := "ytolgcoapehmekaa", sum := "263f91d18502bc9aa6c8b4ad8be89049ffccdbac6bf61a9f77388bdc23418271", func := "loop.example/wholenet/laws.FnDistance", spec := "fnDistance", apart := false }
def FnDistanceSaid : Prop := fnDistanceRow.holds Try.pinned (OpenSpec.ofChange fnDistanceSpec)

/-- ITS FALSE NEIGHBOUR: 'it returns false'. Refute it at one input. -/
def fnDistanceWrong : ChangeSpec := { name := "fnDistance", fn := fun _ => fun
  | [d1, d2] => { results := [.lit (.bool false)], args := [d1, d2] }
  | _ => none }
def FnDistanceWrongFalsely : Prop := fnDistanceRow.holds Try.pinned (OpenSpec.ofChange fnDistanceWrong)

/-- 'laws.FnExactBytesOf': WHATEVER THE INPUT: true; the input reads as it did. -/
def fnExactBytesOfSpec : ChangeSpec := { name := "fnExactBytesOf", fn := fun _ => fun
  | [d] => { results := [.lit (.bool true)], args := [d] }
  | _ => none }
def fnExactBytesOfRow : OpenClaim := { program := "ytolgcoapehmekaa", sum := "263f91d18502bc9aa6c8b4ad8be89049ffccdbac6bf61a9f77388bdc23418271", func := "loop.example/wholenet/laws.FnExactBytesOf", spec := "fnExactBytesOf", unfollowed := true, recurses := true, apart := false }
def FnExactBytesOfSaid : Prop := fnExactBytesOfRow.holds Try.pinned (OpenSpec.ofChange fnExactBytesOfSpec)

/-- ITS FALSE NEIGHBOUR: 'it returns false'. Refute it at one input. -/
def fnExactBytesOfWrong : ChangeSpec := { name := "fnExactBytesOf", fn := fun _ => fun
  | [d] => { results := [.lit (.bool false)], args := [d] }
  | _ => none }
def FnExactBytesOfWrongFalsely : Prop := fnExactBytesOfRow.holds Try.pinned (OpenSpec.ofChange fnExactBytesOfWrong)

/-- 'laws.FnParityFlip': WHATEVER THE INPUT: true; the input reads as it did. -/
def fnParityFlipSpec : ChangeSpec := { name := "fnParityFlip", fn := fun _ => fun
  | [d] => { results := [.lit (.bool true)], args := [d] }
  | _ => none }
def fnParityFlipRow : OpenClaim := { program := "ytolgcoapehmekaa", sum := "263f91d18502bc9aa6c8b4ad8be89049ffccdbac6bf61a9f77388bdc23418271", func := "loop.example/wholenet/laws.FnParityFlip", spec := "fnParityFlip", apart := false }
def FnParityFlipSaid : Prop := fnParityFlipRow.holds Try.pinned (OpenSpec.ofChange fnParityFlipSpec)

/-- ITS FALSE NEIGHBOUR: 'it returns false'. Refute it at one input. -/
def fnParityFlipWrong : ChangeSpec := { name := "fnParityFlip", fn := fun _ => fun
  | [d] => { results := [.lit (.bool false)], args := [d] }
  | _ => none }
def FnParityFlipWrongFalsely : Prop := fnParityFlipRow.holds Try.pinned (OpenSpec.ofChange fnParityFlipWrong)

/-- 'laws.FnBytesBack': WHATEVER THE INPUT: true; the input reads as it did. -/
def fnBytesBackSpec : ChangeSpec := { name := "fnBytesBack", fn := fun _ => fun
  | [d] => { results := [.lit (.bool true)], args := [d] }
  | _ => none }
def fnBytesBackRow : OpenClaim := { program := "ytolgcoapehmekaa", sum := "263f91d18502bc9aa6c8b4ad8be89049ffccdbac6bf61a9f77388bdc23418271", func := "loop.example/wholenet/laws.FnBytesBack", spec := "fnBytesBack", unfollowed := true, recurses := true, apart := false }
def FnBytesBackSaid : Prop := fnBytesBackRow.holds Try.pinned (OpenSpec.ofChange fnBytesBackSpec)

/-- ITS FALSE NEIGHBOUR: 'it returns false'. Refute it at one input. -/
def fnBytesBackWrong : ChangeSpec := { name := "fnBytesBack", fn := fun _ => fun
  | [d] => { results := [.lit (.bool false)], args := [d] }
  | _ => none }
def FnBytesBackWrongFalsely : Prop := fnBytesBackRow.holds Try.pinned (OpenSpec.ofChange fnBytesBackWrong)

/-- 'laws.FnBitsBack': WHATEVER THE INPUT: true; the input reads as it did. -/
def fnBitsBackSpec : ChangeSpec := { name := "fnBitsBack", fn := fun _ => fun
  | [d] => { results := [.lit (.bool true)], args := [d] }
  | _ => none }
def fnBitsBackRow : OpenClaim := { program := "ytolgcoapehmekaa", sum := "263f91d18502bc9aa6c8b4ad8be89049ffccdbac6bf61a9f77388bdc23418271", func := "loop.example/wholenet/laws.FnBitsBack", spec := "fnBitsBack", unfollowed := true, recurses := true, apart := false }
def FnBitsBackSaid : Prop := fnBitsBackRow.holds Try.pinned (OpenSpec.ofChange fnBitsBackSpec)

/-- ITS FALSE NEIGHBOUR: 'it returns false'. Refute it at one input. -/
def fnBitsBackWrong : ChangeSpec := { name := "fnBitsBack", fn := fun _ => fun
  | [d] => { results := [.lit (.bool false)], args := [d] }
  | _ => none }
def FnBitsBackWrongFalsely : Prop := fnBitsBackRow.holds Try.pinned (OpenSpec.ofChange fnBitsBackWrong)

/- THE SECOND FORM. 'bulk': how many values and letters a reading holds, each counted each time it is reached (what is shared counts as often as it is met; a slice's spare places count too). A statement '..UptoSaid' is the law's where the arguments, and the package variables that the reading takes, are together of bulk at most 1048576: NARROWER than '..Said'. Prove '..Said' where nothing that the law and all that it calls make is longer than what came in: it says more and counts as full. Else prove '..UptoSaid'. A law counts once. -/
mutual
def uptoBulk {H : Type} : DataW H → Nat
  | .lit (.string bytes) => bytes.length + 1
  | .lit _ => 1
  | .nil => 1
  | .ptr d => uptoBulk d + 1
  | .slice elems spare => uptoBulkAll elems + uptoBulkAll spare + 1
  | .agg parts => uptoBulkAll parts + 1
  | .iface _ d => uptoBulk d + 1
  | .map entries => uptoBulkEntries entries + 1
  | .held _ => 1
def uptoBulkAll {H : Type} : List (DataW H) → Nat
  | [] => 0
  | d :: r => uptoBulk d + uptoBulkAll r
def uptoBulkEntries {H : Type} : List (Lit × DataW H) → Nat
  | [] => 0
  | x :: r => uptoBulkEntry x + uptoBulkEntries r
def uptoBulkEntry {H : Type} : Lit × DataW H → Nat
  | (.string bytes, d) => bytes.length + uptoBulk d + 1
  | (_, d) => uptoBulk d + 1
 end
def uptoSmall : (H : Type) → List (DataW H) → Bool := fun _ ds => decide (uptoBulkAll ds ≤ 1048576)
def OpenSpec.upto (s : _root_.Go.ChangeSpec) : _root_.Go.OpenSpec := { _root_.Go.OpenSpec.ofChange s with cond := some uptoSmall }

/-- 'laws.FnExactParityOf', WHERE WHAT IT READS IS OF BULK AT MOST 1048576: true; the input reads as it did. -/
def fnExactParityOfUptoRow : OpenClaim := { program := "ytolgcoapehmekaa", sum := "263f91d18502bc9aa6c8b4ad8be89049ffccdbac6bf61a9f77388bdc23418271", func := "loop.example/wholenet/laws.FnExactParityOf", spec := "fnExactParityOf", apart := false, narrowed := true }
def FnExactParityOfUptoSaid : Prop := fnExactParityOfUptoRow.holds Try.pinned (OpenSpec.upto fnExactParityOfSpec)

/-- 'laws.FnExactDistance', WHERE WHAT IT READS IS OF BULK AT MOST 1048576: true; the input reads as it did. -/
def fnExactDistanceUptoRow : OpenClaim := { program := "ytolgcoapehmekaa", sum := "263f91d18502bc9aa6c8b4ad8be89049ffccdbac6bf61a9f77388bdc23418271", func := "loop.example/wholenet/laws.FnExactDistance", spec := "fnExactDistance", apart := false, narrowed := true }
def FnExactDistanceUptoSaid : Prop := fnExactDistanceUptoRow.holds Try.pinned (OpenSpec.upto fnExactDistanceSpec)

/-- 'laws.FnExactFlipBit', WHERE WHAT IT READS IS OF BULK AT MOST 1048576: true; the input reads as it did. -/
def fnExactFlipBitUptoRow : OpenClaim := { program := "ytolgcoapehmekaa", sum := "263f91d18502bc9aa6c8b4ad8be89049ffccdbac6bf61a9f77388bdc23418271", func := "loop.example/wholenet/laws.FnExactFlipBit", spec := "fnExactFlipBit", apart := false, narrowed := true }
def FnExactFlipBitUptoSaid : Prop := fnExactFlipBitUptoRow.holds Try.pinned (OpenSpec.upto fnExactFlipBitSpec)

/-- 'laws.FnExactBitsOf', WHERE WHAT IT READS IS OF BULK AT MOST 1048576: true; the input reads as it did. -/
def fnExactBitsOfUptoRow : OpenClaim := { program := "ytolgcoapehmekaa", sum := "263f91d18502bc9aa6c8b4ad8be89049ffccdbac6bf61a9f77388bdc23418271", func := "loop.example/wholenet/laws.FnExactBitsOf", spec := "fnExactBitsOf", apart := false, narrowed := true }
def FnExactBitsOfUptoSaid : Prop := fnExactBitsOfUptoRow.holds Try.pinned (OpenSpec.upto fnExactBitsOfSpec)

/-- 'laws.FnDistance', WHERE WHAT IT READS IS OF BULK AT MOST 1048576: true; the input reads as it did. -/
def fnDistanceUptoRow : OpenClaim := { program := "ytolgcoapehmekaa", sum := "263f91d18502bc9aa6c8b4ad8be89049ffccdbac6bf61a9f77388bdc23418271", func := "loop.example/wholenet/laws.FnDistance", spec := "fnDistance", apart := false, narrowed := true }
def FnDistanceUptoSaid : Prop := fnDistanceUptoRow.holds Try.pinned (OpenSpec.upto fnDistanceSpec)

/-- 'laws.FnExactBytesOf', WHERE WHAT IT READS IS OF BULK AT MOST 1048576: true; the input reads as it did. -/
def fnExactBytesOfUptoRow : OpenClaim := { program := "ytolgcoapehmekaa", sum := "263f91d18502bc9aa6c8b4ad8be89049ffccdbac6bf61a9f77388bdc23418271", func := "loop.example/wholenet/laws.FnExactBytesOf", spec := "fnExactBytesOf", unfollowed := true, recurses := true, apart := false, narrowed := true }
def FnExactBytesOfUptoSaid : Prop := fnExactBytesOfUptoRow.holds Try.pinned (OpenSpec.upto fnExactBytesOfSpec)

/-- 'laws.FnParityFlip', WHERE WHAT IT READS IS OF BULK AT MOST 1048576: true; the input reads as it did. -/
def fnParityFlipUptoRow : OpenClaim := { program := "ytolgcoapehmekaa", sum := "263f91d18502bc9aa6c8b4ad8be89049ffccdbac6bf61a9f77388bdc23418271", func := "loop.example/wholenet/laws.FnParityFlip", spec := "fnParityFlip", apart := false, narrowed := true }
def FnParityFlipUptoSaid : Prop := fnParityFlipUptoRow.holds Try.pinned (OpenSpec.upto fnParityFlipSpec)

/-- 'laws.FnBytesBack', WHERE WHAT IT READS IS OF BULK AT MOST 1048576: true; the input reads as it did. -/
def fnBytesBackUptoRow : OpenClaim := { program := "ytolgcoapehmekaa", sum := "263f91d18502bc9aa6c8b4ad8be89049ffccdbac6bf61a9f77388bdc23418271", func := "loop.example/wholenet/laws.FnBytesBack", spec := "fnBytesBack", unfollowed := true, recurses := true, apart := false, narrowed := true }
def FnBytesBackUptoSaid : Prop := fnBytesBackUptoRow.holds Try.pinned (OpenSpec.upto fnBytesBackSpec)

/-- 'laws.FnBitsBack', WHERE WHAT IT READS IS OF BULK AT MOST 1048576: true; the input reads as it did. -/
def fnBitsBackUptoRow : OpenClaim := { program := "ytolgcoapehmekaa", sum := "263f91d18502bc9aa6c8b4ad8be89049ffccdbac6bf61a9f77388bdc23418271", func := "loop.example/wholenet/laws.FnBitsBack", spec := "fnBitsBack", unfollowed := true, recurses := true, apart := false, narrowed := true }
def FnBitsBackUptoSaid : Prop := fnBitsBackUptoRow.holds Try.pinned (OpenSpec.upto fnBitsBackSpec)

end Rows
end Go.Proofs.Ytolgcoapehmekaa
