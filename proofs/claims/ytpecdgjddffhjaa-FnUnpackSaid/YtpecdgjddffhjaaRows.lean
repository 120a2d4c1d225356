/-
  No cell of these rows narrows 'for every input' (looked for: loops, veiled, ifaces, maps, wideKeys, modest, calm, conditions, laid).
  DERIVED. THE GIVEN ROWS OF THIS SEAT. 10 by the template 'for every input the law returns true; each argument reads behind the call as it read before'; 0 by the template 'total and deterministic' (their statements: YtpecdgjddffhjaaTotals.lean).
  GIVEN WITH THE SEED: the statements are not yours to turn. If you find one false, say at which input.
  Laid BY PROGRAM, IN A SANDBOX (cutbox-rows.mjs): the forced cells as the released guide's own fill.sh prints them over the translation 23fba0bf4e282ae6… (all of the seat's roots in one cut). By AI agents, Wed Nov 11 2026. No macro, syntax, notation, axiom, sorry.
-/
import Derived.Test.YtpecdgjddffhjaaChecked
import GoSem.Claim
import GoSem.ClaimJoined
import GoSem.ClaimMapViews
import Derived.JoinedTies
import Derived.KernelRfl
namespace Go.Proofs.Ytpecdgjddffhjaa
/- THE CELL 'sum', in the pinned program and in every row, IS THE sha256 OF THE DUMP (.gsa) THAT YtpecdgjddffhjaaProg.lean LOADS. Nothing in Lean hashes anything: it is a label: what it is worth is what the hold of that sum in a sandbox is worth. -/
noncomputable def Try.pinned : Pinned := { name := "ytpecdgjddffhjaa", sum := "23fba0bf4e282ae691a2be1e2d34bc2e2b05cce34369ef2699256d0eb13bd00c", checked := Try.checked }
namespace Rows
def none {H : Type} : Left H := { results := [], args := [] }

/-- 'laws.FnExactAddCrc': WHATEVER THE INPUT: true; the input reads as it did. -/
def fnExactAddCrcSpec : ChangeSpec := { name := "fnExactAddCrc", fn := fun _ => fun
  | [d] => { results := [.lit (.bool true)], args := [d] }
  | _ => none }
def fnExactAddCrcRow : OpenClaim := { program := "ytpecdgjddffhjaa", sum := "23fba0bf4e282ae691a2be1e2d34bc2e2b05cce34369ef2699256d0eb13bd00c", func := "loop.example/wholenet/laws.FnExactAddCrc", spec := "fnExactAddCrc", apart := false }
def FnExactAddCrcSaid : Prop := fnExactAddCrcRow.holds Try.pinned (OpenSpec.ofChange fnExactAddCrcSpec)

/-- ITS FALSE NEIGHBOUR: 'it returns false'. Refute it at one input. -/
def fnExactAddCrcWrong : ChangeSpec := { name := "fnExactAddCrc", fn := fun _ => fun
  | [d] => { results := [.lit (.bool false)], args := [d] }
  | _ => none }
def FnExactAddCrcWrongFalsely : Prop := fnExactAddCrcRow.holds Try.pinned (OpenSpec.ofChange fnExactAddCrcWrong)

/-- 'laws.FnExactCutCrc': WHATEVER THE INPUT: true; the input reads as it did. -/
def fnExactCutCrcSpec : ChangeSpec := { name := "fnExactCutCrc", fn := fun _ => fun
  | [d] => { results := [.lit (.bool true)], args := [d] }
  | _ => none }
def fnExactCutCrcRow : OpenClaim := { program := "ytpecdgjddffhjaa", sum := "23fba0bf4e282ae691a2be1e2d34bc2e2b05cce34369ef2699256d0eb13bd00c", func := "loop.example/wholenet/laws.FnExactCutCrc", spec := "fnExactCutCrc", apart := false }
def FnExactCutCrcSaid : Prop := fnExactCutCrcRow.holds Try.pinned (OpenSpec.ofChange fnExactCutCrcSpec)

/-- ITS FALSE NEIGHBOUR: 'it returns false'. Refute it at one input. -/
def fnExactCutCrcWrong : ChangeSpec := { name := "fnExactCutCrc", fn := fun _ => fun
  | [d] => { results := [.lit (.bool false)], args := [d] }
  | _ => none }
def FnExactCutCrcWrongFalsely : Prop := fnExactCutCrcRow.holds Try.pinned (OpenSpec.ofChange fnExactCutCrcWrong)

/-- 'laws.FnExactPackLink': WHATEVER THE INPUT: true; the input reads as it did. -/
def fnExactPackLinkSpec : ChangeSpec := { name := "fnExactPackLink", fn := fun _ => fun
  | [d1, d2, d3] => { results := [.lit (.bool true)], args := [d1, d2, d3] }
  | _ => none }
def fnExactPackLinkRow : OpenClaim := { program := "ytpecdgjddffhjaa", sum := "23fba0bf4e282ae691a2be1e2d34bc2e2b05cce34369ef2699256d0eb13bd00c", func := "loop.example/wholenet/laws.FnExactPackLink", spec := "fnExactPackLink", apart := false }
def FnExactPackLinkSaid : Prop := fnExactPackLinkRow.holds Try.pinned (OpenSpec.ofChange fnExactPackLinkSpec)

/-- ITS FALSE NEIGHBOUR: 'it returns false'. Refute it at one input. -/
def fnExactPackLinkWrong : ChangeSpec := { name := "fnExactPackLink", fn := fun _ => fun
  | [d1, d2, d3] => { results := [.lit (.bool false)], args := [d1, d2, d3] }
  | _ => none }
def FnExactPackLinkWrongFalsely : Prop := fnExactPackLinkRow.holds Try.pinned (OpenSpec.ofChange fnExactPackLinkWrong)

/-- 'laws.FnCrcBack': WHATEVER THE INPUT: true; the input reads as it did. -/
def fnCrcBackSpec : ChangeSpec := { name := "fnCrcBack", fn := fun _ => fun
  | [d] => { results := [.lit (.bool true)], args := [d] }
  | _ => none }
def fnCrcBackRow : OpenClaim := { program := "ytpecdgjddffhjaa", sum := "23fba0bf4e282ae691a2be1e2d34bc2e2b05cce34369ef2699256d0eb13bd00c", func := "loop.example/wholenet/laws.FnCrcBack", spec := "fnCrcBack", apart := false }
def FnCrcBackSaid : Prop := fnCrcBackRow.holds Try.pinned (OpenSpec.ofChange fnCrcBackSpec)

/-- ITS FALSE NEIGHBOUR: 'it returns false'. Refute it at one input. -/
def fnCrcBackWrong : ChangeSpec := { name := "fnCrcBack", fn := fun _ => fun
  | [d] => { results := [.lit (.bool false)], args := [d] }
  | _ => none }
def FnCrcBackWrongFalsely : Prop := fnCrcBackRow.holds Try.pinned (OpenSpec.ofChange fnCrcBackWrong)

/-- 'laws.FnExactUnpackLink': WHATEVER THE INPUT: true; the input reads as it did. -/
def fnExactUnpackLinkSpec : ChangeSpec := { name := "fnExactUnpackLink", fn := fun _ => fun
  | [d] => { results := [.lit (.bool true)], args := [d] }
  | _ => none }
def fnExactUnpackLinkRow : OpenClaim := { program := "ytpecdgjddffhjaa", sum := "23fba0bf4e282ae691a2be1e2d34bc2e2b05cce34369ef2699256d0eb13bd00c", func := "loop.example/wholenet/laws.FnExactUnpackLink", spec := "fnExactUnpackLink", apart := false }
def FnExactUnpackLinkSaid : Prop := fnExactUnpackLinkRow.holds Try.pinned (OpenSpec.ofChange fnExactUnpackLinkSpec)

/-- ITS FALSE NEIGHBOUR: 'it returns false'. Refute it at one input. -/
def fnExactUnpackLinkWrong : ChangeSpec := { name := "fnExactUnpackLink", fn := fun _ => fun
  | [d] => { results := [.lit (.bool false)], args := [d] }
  | _ => none }
def FnExactUnpackLinkWrongFalsely : Prop := fnExactUnpackLinkRow.holds Try.pinned (OpenSpec.ofChange fnExactUnpackLinkWrong)

/-- 'laws.FnCutCrc': WHATEVER THE INPUT: true; the input reads as it did. -/
def fnCutCrcSpec : ChangeSpec := { name := "fnCutCrc", fn := fun _ => fun
  | [d] => { results := [.lit (.bool true)], args := [d] }
  | _ => none }
def fnCutCrcRow : OpenClaim := { program := "ytpecdgjddffhjaa", sum := "23fba0bf4e282ae691a2be1e2d34bc2e2b05cce34369ef2699256d0eb13bd00c", func := "loop.example/wholenet/laws.FnCutCrc", spec := "fnCutCrc", apart := false }
def FnCutCrcSaid : Prop := fnCutCrcRow.holds Try.pinned (OpenSpec.ofChange fnCutCrcSpec)

/-- ITS FALSE NEIGHBOUR: 'it returns false'. Refute it at one input. -/
def fnCutCrcWrong : ChangeSpec := { name := "fnCutCrc", fn := fun _ => fun
  | [d] => { results := [.lit (.bool false)], args := [d] }
  | _ => none }
def FnCutCrcWrongFalsely : Prop := fnCutCrcRow.holds Try.pinned (OpenSpec.ofChange fnCutCrcWrong)

/-- 'laws.FnCrcBurst': WHATEVER THE INPUT: true; the input reads as it did. -/
def fnCrcBurstSpec : ChangeSpec := { name := "fnCrcBurst", fn := fun _ => fun
  | [d] => { results := [.lit (.bool true)], args := [d] }
  | _ => none }
def fnCrcBurstRow : OpenClaim := { program := "ytpecdgjddffhjaa", sum := "23fba0bf4e282ae691a2be1e2d34bc2e2b05cce34369ef2699256d0eb13bd00c", func := "loop.example/wholenet/laws.FnCrcBurst", spec := "fnCrcBurst", apart := false }
def FnCrcBurstSaid : Prop := fnCrcBurstRow.holds Try.pinned (OpenSpec.ofChange fnCrcBurstSpec)

/-- ITS FALSE NEIGHBOUR: 'it returns false'. Refute it at one input. -/
def fnCrcBurstWrong : ChangeSpec := { name := "fnCrcBurst", fn := fun _ => fun
  | [d] => { results := [.lit (.bool false)], args := [d] }
  | _ => none }
def FnCrcBurstWrongFalsely : Prop := fnCrcBurstRow.holds Try.pinned (OpenSpec.ofChange fnCrcBurstWrong)

/-- 'laws.FnCrcOdd': WHATEVER THE INPUT: true; the input reads as it did. -/
def fnCrcOddSpec : ChangeSpec := { name := "fnCrcOdd", fn := fun _ => fun
  | [d] => { results := [.lit (.bool true)], args := [d] }
  | _ => none }
def fnCrcOddRow : OpenClaim := { program := "ytpecdgjddffhjaa", sum := "23fba0bf4e282ae691a2be1e2d34bc2e2b05cce34369ef2699256d0eb13bd00c", func := "loop.example/wholenet/laws.FnCrcOdd", spec := "fnCrcOdd", apart := false }
def FnCrcOddSaid : Prop := fnCrcOddRow.holds Try.pinned (OpenSpec.ofChange fnCrcOddSpec)

/-- ITS FALSE NEIGHBOUR: 'it returns false'. Refute it at one input. -/
def fnCrcOddWrong : ChangeSpec := { name := "fnCrcOdd", fn := fun _ => fun
  | [d] => { results := [.lit (.bool false)], args := [d] }
  | _ => none }
def FnCrcOddWrongFalsely : Prop := fnCrcOddRow.holds Try.pinned (OpenSpec.ofChange fnCrcOddWrong)

/-- 'laws.FnPackBack': WHATEVER THE INPUT: true; the input reads as it did. -/
def fnPackBackSpec : ChangeSpec := { name := "fnPackBack", fn := fun _ => fun
  | [d] => { results := [.lit (.bool true)], args := [d] }
  | _ => none }
def fnPackBackRow : OpenClaim := { program := "ytpecdgjddffhjaa", sum := "23fba0bf4e282ae691a2be1e2d34bc2e2b05cce34369ef2699256d0eb13bd00c", func := "loop.example/wholenet/laws.FnPackBack", spec := "fnPackBack", apart := false }
def FnPackBackSaid : Prop := fnPackBackRow.holds Try.pinned (OpenSpec.ofChange fnPackBackSpec)

/-- ITS FALSE NEIGHBOUR: 'it returns false'. Refute it at one input. -/
def fnPackBackWrong : ChangeSpec := { name := "fnPackBack", fn := fun _ => fun
  | [d] => { results := [.lit (.bool false)], args := [d] }
  | _ => none }
def FnPackBackWrongFalsely : Prop := fnPackBackRow.holds Try.pinned (OpenSpec.ofChange fnPackBackWrong)

/-- 'laws.FnUnpack': WHATEVER THE INPUT: true; the input reads as it did. -/
def fnUnpackSpec : ChangeSpec := { name := "fnUnpack", fn := fun _ => fun
  | [d] => { results := [.lit (.bool true)], args := [d] }
  | _ => none }
def fnUnpackRow : OpenClaim := { program := "ytpecdgjddffhjaa", sum := "23fba0bf4e282ae691a2be1e2d34bc2e2b05cce34369ef2699256d0eb13bd00c", func := "loop.example/wholenet/laws.FnUnpack", spec := "fnUnpack", apart := false }
def FnUnpackSaid : Prop := fnUnpackRow.holds Try.pinned (OpenSpec.ofChange fnUnpackSpec)

/-- ITS FALSE NEIGHBOUR: 'it returns false'. Refute it at one input. -/
def fnUnpackWrong : ChangeSpec := { name := "fnUnpack", fn := fun _ => fun
  | [d] => { results := [.lit (.bool false)], args := [d] }
  | _ => none }
def FnUnpackWrongFalsely : Prop := fnUnpackRow.holds Try.pinned (OpenSpec.ofChange fnUnpackWrong)

/- THE SECOND FORM. 'bulk': how many values and letters a reading holds, each counted each time it is reached (what is shared counts as often as it is met; a slice's spare places count too). A statement '..UptoSaid' is the law's where the arguments, and the package variables that the reading takes, are together of bulk at most 1048576: NARROWER than '..Said'. Prove '..Said' where nothing that the law and all that it calls make is longer than what came in: it says more and counts as full. Else prove '..UptoSaid'. A law counts once. -/
mutual
def uptoBulk {H : Type} : DataW H → Nat
  | .lit (.string bytes) => bytes.length + 1
  | .lit _ => 1
  | .nil => 1
  | .ptr d => uptoBulk d + 1
  | .slice elems spare => uptoBulkAll elems + uptoBulkAll spare + 1
  | .agg parts => uptoBulkAll parts + 1
  | .iface _ d => uptoBulk d + 1
  | .map entries => uptoBulkEntries entries + 1
  | .held _ => 1
def uptoBulkAll {H : Type} : List (DataW H) → Nat
  | [] => 0
  | d :: r => uptoBulk d + uptoBulkAll r
def uptoBulkEntries {H : Type} : List (Lit × DataW H) → Nat
  | [] => 0
  | x :: r => uptoBulkEntry x + uptoBulkEntries r
def uptoBulkEntry {H : Type} : Lit × DataW H → Nat
  | (.string bytes, d) => bytes.length + uptoBulk d + 1
  | (_, d) => uptoBulk d + 1
 end
def uptoSmall : (H : Type) → List (DataW H) → Bool := fun _ ds => decide (uptoBulkAll ds ≤ 1048576)
def OpenSpec.upto (s : _root_.Go.ChangeSpec) : _root_.Go.OpenSpec := { _root_.Go.OpenSpec.ofChange s with cond := some uptoSmall }

/-- 'laws.FnExactAddCrc', WHERE WHAT IT READS IS OF BULK AT MOST 1048576: true; the input reads as it did. -/
def fnExactAddCrcUptoRow : OpenClaim := { program := "ytpecdgjddffhjaa", sum := "23fba0bf4e282ae691a2be1e2d34bc2e2b05cce34369ef2699256d0eb13bd00c", func := "loop.example/wholenet/laws.FnExactAddCrc", spec := "fnExactAddCrc", apart := false, narrowed := true }
def FnExactAddCrcUptoSaid : Prop := fnExactAddCrcUptoRow.holds Try.pinned (OpenSpec.upto fnExactAddCrcSpec)

/-- 'laws.FnExactCutCrc', WHERE WHAT IT READS IS OF BULK AT MOST 1048576: true; the input reads as it did. -/
def fnExactCutCrcUptoRow : OpenClaim := { program := "ytpecdgjddffhjaa", sum := "23fba0bf4e282ae691a2be1e2d34bc2e2b05cce34369ef2699256d0eb13bd00c", func := "loop.example/wholenet/laws.FnExactCutCrc", spec := "fnExactCutCrc", apart := false, narrowed := true }
def FnExactCutCrcUptoSaid : Prop := fnExactCutCrcUptoRow.holds Try.pinned (OpenSpec.upto fnExactCutCrcSpec)

/-- 'laws.FnExactPackLink', WHERE WHAT IT READS IS OF BULK AT MOST 1048576: true; the input reads as it did. -/
def fnExactPackLinkUptoRow : OpenClaim := { program := "ytpecdgjddffhjaa", sum := "23fba0bf4e282ae691a2be1e2d34bc2e2b05cce34369ef2699256d0eb13bd00c", func := "loop.example/wholenet/laws.FnExactPackLink", spec := "fnExactPackLink", apart := false, narrowed := true }
def FnExactPackLinkUptoSaid : Prop := fnExactPackLinkUptoRow.holds Try.pinned (OpenSpec.upto fnExactPackLinkSpec)

/-- 'laws.FnCrcBack', WHERE WHAT IT READS IS OF BULK AT MOST 1048576: true; the input reads as it did. -/
def fnCrcBackUptoRow : OpenClaim := { program := "ytpecdgjddffhjaa", sum := "23fba0bf4e282ae691a2be1e2d34bc2e2b05cce34369ef2699256d0eb13bd00c", func := "loop.example/wholenet/laws.FnCrcBack", spec := "fnCrcBack", apart := false, narrowed := true }
def FnCrcBackUptoSaid : Prop := fnCrcBackUptoRow.holds Try.pinned (OpenSpec.upto fnCrcBackSpec)

/-- 'laws.FnExactUnpackLink', WHERE WHAT IT READS IS OF BULK AT MOST 1048576: true; the input reads as it did. -/
def fnExactUnpackLinkUptoRow : OpenClaim := { program := "ytpecdgjddffhjaa", sum := "23fba0bf4e282ae691a2be1e2d34bc2e2b05cce34369ef2699256d0eb13bd00c", func := "loop.example/wholenet/laws.FnExactUnpackLink", spec := "fnExactUnpackLink", apart := false, narrowed := true }
def FnExactUnpackLinkUptoSaid : Prop := fnExactUnpackLinkUptoRow.holds Try.pinned (OpenSpec.upto fnExactUnpackLinkSpec)

/-- 'laws.FnCutCrc', WHERE WHAT IT READS IS OF BULK AT MOST 1048576: true; the input reads as it did. -/
def fnCutCrcUptoRow : OpenClaim := { program := "ytpecdgjddffhjaa", sum := "23fba0bf4e282ae691a2be1e2d34bc2e2b05cce34369ef2699256d0eb13bd00c", func := "loop.example/wholenet/laws.FnCutCrc", spec := "fnCutCrc", apart := false, narrowed := true }
def FnCutCrcUptoSaid : Prop := fnCutCrcUptoRow.holds Try.pinned (OpenSpec.upto fnCutCrcSpec)

/-- 'laws.FnCrcBurst', WHERE WHAT IT READS IS OF BULK AT MOST 1048576: true; the input reads as it did. -/
def fnCrcBurstUptoRow : OpenClaim := { program := "ytpecdgjddffhjaa", sum := "23fba0bf4e282ae691a2be1e2d34bc2e2b05cce34369ef2699256d0eb13bd00c", func := "loop.example/wholenet/laws.FnCrcBurst", spec := "fnCrcBurst", apart := false, narrowed := true }
def FnCrcBurstUptoSaid : Prop := fnCrcBurstUptoRow.holds Try.pinned (OpenSpec.upto fnCrcBurstSpec)

/-- 'laws.FnCrcOdd', WHERE WHAT IT READS IS OF BULK AT MOST 1048576: true; the input reads as it did. -/
def fnCrcOddUptoRow : OpenClaim := { program := "ytpecdgjddffhjaa", sum := "23fba0bf4e282ae691a2be1e2d34bc2e2b05cce34369ef2699256d0eb13bd00c", func := "loop.example/wholenet/laws.FnCrcOdd", spec := "fnCrcOdd", apart := false, narrowed := true }
def FnCrcOddUptoSaid : Prop := fnCrcOddUptoRow.holds Try.pinned (OpenSpec.upto fnCrcOddSpec)

/-- 'laws.FnPackBack', WHERE WHAT IT READS IS OF BULK AT MOST 1048576: true; the input reads as it did. -/
def fnPackBackUptoRow : OpenClaim := { program := "ytpecdgjddffhjaa", sum := "23fba0bf4e282ae691a2be1e2d34bc2e2b05cce34369ef2699256d0eb13bd00c", func := "loop.example/wholenet/laws.FnPackBack", spec := "fnPackBack", apart := false, narrowed := true }
def FnPackBackUptoSaid : Prop := fnPackBackUptoRow.holds Try.pinned (OpenSpec.upto fnPackBackSpec)

/-- 'laws.FnUnpack', WHERE WHAT IT READS IS OF BULK AT MOST 1048576: true; the input reads as it did. -/
def fnUnpackUptoRow : OpenClaim := { program := "ytpecdgjddffhjaa", sum := "23fba0bf4e282ae691a2be1e2d34bc2e2b05cce34369ef2699256d0eb13bd00c", func := "loop.example/wholenet/laws.FnUnpack", spec := "fnUnpack", apart := false, narrowed := true }
def FnUnpackUptoSaid : Prop := fnUnpackUptoRow.holds Try.pinned (OpenSpec.upto fnUnpackSpec)

end Rows
end Go.Proofs.Ytpecdgjddffhjaa
