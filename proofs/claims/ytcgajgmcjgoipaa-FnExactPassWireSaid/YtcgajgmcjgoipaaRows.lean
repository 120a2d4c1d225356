/-
  No cell of these rows narrows 'for every input' (looked for: loops, veiled, ifaces, maps, wideKeys, modest, calm, conditions, laid).
  DERIVED. THE GIVEN ROWS OF THIS SEAT. 14 by the template 'for every input the law returns true; each argument reads behind the call as it read before'; 0 by the template 'total and deterministic' (their statements: YtcgajgmcjgoipaaTotals.lean).
  GIVEN WITH THE SEED: the statements are not yours to turn. If you find one false, say at which input.
  Laid BY PROGRAM, IN A SANDBOX (cutbox-rows.mjs): the forced cells as the released guide's own fill.sh prints them over the translation dc7d6b6fc8630f8d… (all of the seat's roots in one cut). By AI agents, Wed Nov 11 2026. No macro, syntax, notation, axiom, sorry.
-/
import Derived.Test.YtcgajgmcjgoipaaChecked
import GoSem.Claim
import GoSem.ClaimJoined
import GoSem.ClaimMapViews
import Derived.JoinedTies
import Derived.KernelRfl
namespace Go.Proofs.Ytcgajgmcjgoipaa
/- THE CELL 'sum', in the pinned program and in every row, IS THE sha256 OF THE DUMP (.gsa) THAT YtcgajgmcjgoipaaProg.lean LOADS. Nothing in Lean hashes anything: it is a label: what it is worth is what the hold of that sum in a sandbox is worth. -/
noncomputable def Try.pinned : Pinned := { name := "ytcgajgmcjgoipaa", sum := "dc7d6b6fc8630f8d0ceda09fa0dc383c63ef98007619c78543fd3723b2aadc77", checked := Try.checked }
namespace Rows
def none {H : Type} : Left H := { results := [], args := [] }

/-- 'laws.FnExactFatesValid': WHATEVER THE INPUT: true; the input reads as it did. -/
def fnExactFatesValidSpec : ChangeSpec := { name := "fnExactFatesValid", fn := fun _ => fun
  | [d] => { results := [.lit (.bool true)], args := [d] }
  | _ => none }
def fnExactFatesValidRow : OpenClaim := { program := "ytcgajgmcjgoipaa", sum := "dc7d6b6fc8630f8d0ceda09fa0dc383c63ef98007619c78543fd3723b2aadc77", func := "loop.example/wholenet/laws.FnExactFatesValid", spec := "fnExactFatesValid", unfollowed := true, recurses := true, apart := false }
def FnExactFatesValidSaid : Prop := fnExactFatesValidRow.holds Try.pinned (OpenSpec.ofChange fnExactFatesValidSpec)

/-- ITS FALSE NEIGHBOUR: 'it returns false'. Refute it at one input. -/
def fnExactFatesValidWrong : ChangeSpec := { name := "fnExactFatesValid", fn := fun _ => fun
  | [d] => { results := [.lit (.bool false)], args := [d] }
  | _ => none }
def FnExactFatesValidWrongFalsely : Prop := fnExactFatesValidRow.holds Try.pinned (OpenSpec.ofChange fnExactFatesValidWrong)

/-- 'laws.FnClear': WHATEVER THE INPUT: true; the input reads as it did. -/
def fnClearSpec : ChangeSpec := { name := "fnClear", fn := fun _ => fun
  | [d1, d2] => { results := [.lit (.bool true)], args := [d1, d2] }
  | _ => none }
def fnClearRow : OpenClaim := { program := "ytcgajgmcjgoipaa", sum := "dc7d6b6fc8630f8d0ceda09fa0dc383c63ef98007619c78543fd3723b2aadc77", func := "loop.example/wholenet/laws.FnClear", spec := "fnClear", unfollowed := true, recurses := true, apart := false }
def FnClearSaid : Prop := fnClearRow.holds Try.pinned (OpenSpec.ofChange fnClearSpec)

/-- ITS FALSE NEIGHBOUR: 'it returns false'. Refute it at one input. -/
def fnClearWrong : ChangeSpec := { name := "fnClear", fn := fun _ => fun
  | [d1, d2] => { results := [.lit (.bool false)], args := [d1, d2] }
  | _ => none }
def FnClearWrongFalsely : Prop := fnClearRow.holds Try.pinned (OpenSpec.ofChange fnClearWrong)

/-- 'laws.FnExactIsClear': WHATEVER THE INPUT: true; the input reads as it did. -/
def fnExactIsClearSpec : ChangeSpec := { name := "fnExactIsClear", fn := fun _ => fun
  | [d] => { results := [.lit (.bool true)], args := [d] }
  | _ => none }
def fnExactIsClearRow : OpenClaim := { program := "ytcgajgmcjgoipaa", sum := "dc7d6b6fc8630f8d0ceda09fa0dc383c63ef98007619c78543fd3723b2aadc77", func := "loop.example/wholenet/laws.FnExactIsClear", spec := "fnExactIsClear", unfollowed := true, recurses := true, apart := false }
def FnExactIsClearSaid : Prop := fnExactIsClearRow.holds Try.pinned (OpenSpec.ofChange fnExactIsClearSpec)

/-- ITS FALSE NEIGHBOUR: 'it returns false'. Refute it at one input. -/
def fnExactIsClearWrong : ChangeSpec := { name := "fnExactIsClear", fn := fun _ => fun
  | [d] => { results := [.lit (.bool false)], args := [d] }
  | _ => none }
def FnExactIsClearWrongFalsely : Prop := fnExactIsClearRow.holds Try.pinned (OpenSpec.ofChange fnExactIsClearWrong)

/-- 'laws.FnExactLinkBound': WHATEVER THE INPUT: true; the input reads as it did. -/
def fnExactLinkBoundSpec : ChangeSpec := { name := "fnExactLinkBound", fn := fun _ => fun
  | [d1, d2, d3, d4] => { results := [.lit (.bool true)], args := [d1, d2, d3, d4] }
  | _ => none }
def fnExactLinkBoundRow : OpenClaim := { program := "ytcgajgmcjgoipaa", sum := "dc7d6b6fc8630f8d0ceda09fa0dc383c63ef98007619c78543fd3723b2aadc77", func := "loop.example/wholenet/laws.FnExactLinkBound", spec := "fnExactLinkBound", unfollowed := true, recurses := true, apart := false }
def FnExactLinkBoundSaid : Prop := fnExactLinkBoundRow.holds Try.pinned (OpenSpec.ofChange fnExactLinkBoundSpec)

/-- ITS FALSE NEIGHBOUR: 'it returns false'. Refute it at one input. -/
def fnExactLinkBoundWrong : ChangeSpec := { name := "fnExactLinkBound", fn := fun _ => fun
  | [d1, d2, d3, d4] => { results := [.lit (.bool false)], args := [d1, d2, d3, d4] }
  | _ => none }
def FnExactLinkBoundWrongFalsely : Prop := fnExactLinkBoundRow.holds Try.pinned (OpenSpec.ofChange fnExactLinkBoundWrong)

/-- 'laws.FnPassWire': WHATEVER THE INPUT: true; the input reads as it did. -/
def fnPassWireSpec : ChangeSpec := { name := "fnPassWire", fn := fun _ => fun
  | [d] => { results := [.lit (.bool true)], args := [d] }
  | _ => none }
def fnPassWireRow : OpenClaim := { program := "ytcgajgmcjgoipaa", sum := "dc7d6b6fc8630f8d0ceda09fa0dc383c63ef98007619c78543fd3723b2aadc77", func := "loop.example/wholenet/laws.FnPassWire", spec := "fnPassWire", unfollowed := true, recurses := true, apart := false }
def FnPassWireSaid : Prop := fnPassWireRow.holds Try.pinned (OpenSpec.ofChange fnPassWireSpec)

/-- ITS FALSE NEIGHBOUR: 'it returns false'. Refute it at one input. -/
def fnPassWireWrong : ChangeSpec := { name := "fnPassWire", fn := fun _ => fun
  | [d] => { results := [.lit (.bool false)], args := [d] }
  | _ => none }
def FnPassWireWrongFalsely : Prop := fnPassWireRow.holds Try.pinned (OpenSpec.ofChange fnPassWireWrong)

/-- 'laws.FnExactFateOf': WHATEVER THE INPUT: true; the input reads as it did. -/
def fnExactFateOfSpec : ChangeSpec := { name := "fnExactFateOf", fn := fun _ => fun
  | [d1, d2] => { results := [.lit (.bool true)], args := [d1, d2] }
  | _ => none }
def fnExactFateOfRow : OpenClaim := { program := "ytcgajgmcjgoipaa", sum := "dc7d6b6fc8630f8d0ceda09fa0dc383c63ef98007619c78543fd3723b2aadc77", func := "loop.example/wholenet/laws.FnExactFateOf", spec := "fnExactFateOf", unfollowed := true, recurses := true, apart := false }
def FnExactFateOfSaid : Prop := fnExactFateOfRow.holds Try.pinned (OpenSpec.ofChange fnExactFateOfSpec)

/-- ITS FALSE NEIGHBOUR: 'it returns false'. Refute it at one input. -/
def fnExactFateOfWrong : ChangeSpec := { name := "fnExactFateOf", fn := fun _ => fun
  | [d1, d2] => { results := [.lit (.bool false)], args := [d1, d2] }
  | _ => none }
def FnExactFateOfWrongFalsely : Prop := fnExactFateOfRow.holds Try.pinned (OpenSpec.ofChange fnExactFateOfWrong)

/-- 'laws.FnExactPassWire': WHATEVER THE INPUT: true; the input reads as it did. -/
def fnExactPassWireSpec : ChangeSpec := { name := "fnExactPassWire", fn := fun _ => fun
  | [d1, d2] => { results := [.lit (.bool true)], args := [d1, d2] }
  | _ => none }
def fnExactPassWireRow : OpenClaim := { program := "ytcgajgmcjgoipaa", sum := "dc7d6b6fc8630f8d0ceda09fa0dc383c63ef98007619c78543fd3723b2aadc77", func := "loop.example/wholenet/laws.FnExactPassWire", spec := "fnExactPassWire", unfollowed := true, recurses := true, apart := false }
def FnExactPassWireSaid : Prop := fnExactPassWireRow.holds Try.pinned (OpenSpec.ofChange fnExactPassWireSpec)

/-- ITS FALSE NEIGHBOUR: 'it returns false'. Refute it at one input. -/
def fnExactPassWireWrong : ChangeSpec := { name := "fnExactPassWire", fn := fun _ => fun
  | [d1, d2] => { results := [.lit (.bool false)], args := [d1, d2] }
  | _ => none }
def FnExactPassWireWrongFalsely : Prop := fnExactPassWireRow.holds Try.pinned (OpenSpec.ofChange fnExactPassWireWrong)

/-- 'laws.FnExactLostIn': WHATEVER THE INPUT: true; the input reads as it did. -/
def fnExactLostInSpec : ChangeSpec := { name := "fnExactLostIn", fn := fun _ => fun
  | [d1, d2] => { results := [.lit (.bool true)], args := [d1, d2] }
  | _ => none }
def fnExactLostInRow : OpenClaim := { program := "ytcgajgmcjgoipaa", sum := "dc7d6b6fc8630f8d0ceda09fa0dc383c63ef98007619c78543fd3723b2aadc77", func := "loop.example/wholenet/laws.FnExactLostIn", spec := "fnExactLostIn", unfollowed := true, recurses := true, apart := false }
def FnExactLostInSaid : Prop := fnExactLostInRow.holds Try.pinned (OpenSpec.ofChange fnExactLostInSpec)

/-- ITS FALSE NEIGHBOUR: 'it returns false'. Refute it at one input. -/
def fnExactLostInWrong : ChangeSpec := { name := "fnExactLostIn", fn := fun _ => fun
  | [d1, d2] => { results := [.lit (.bool false)], args := [d1, d2] }
  | _ => none }
def FnExactLostInWrongFalsely : Prop := fnExactLostInRow.holds Try.pinned (OpenSpec.ofChange fnExactLostInWrong)

/-- 'laws.FnExactFatesBehind': WHATEVER THE INPUT: true; the input reads as it did. -/
def fnExactFatesBehindSpec : ChangeSpec := { name := "fnExactFatesBehind", fn := fun _ => fun
  | [d1, d2] => { results := [.lit (.bool true)], args := [d1, d2] }
  | _ => none }
def fnExactFatesBehindRow : OpenClaim := { program := "ytcgajgmcjgoipaa", sum := "dc7d6b6fc8630f8d0ceda09fa0dc383c63ef98007619c78543fd3723b2aadc77", func := "loop.example/wholenet/laws.FnExactFatesBehind", spec := "fnExactFatesBehind", unfollowed := true, recurses := true, apart := false }
def FnExactFatesBehindSaid : Prop := fnExactFatesBehindRow.holds Try.pinned (OpenSpec.ofChange fnExactFatesBehindSpec)

/-- ITS FALSE NEIGHBOUR: 'it returns false'. Refute it at one input. -/
def fnExactFatesBehindWrong : ChangeSpec := { name := "fnExactFatesBehind", fn := fun _ => fun
  | [d1, d2] => { results := [.lit (.bool false)], args := [d1, d2] }
  | _ => none }
def FnExactFatesBehindWrongFalsely : Prop := fnExactFatesBehindRow.holds Try.pinned (OpenSpec.ofChange fnExactFatesBehindWrong)

/-- 'laws.FnBehind': WHATEVER THE INPUT: true; the input reads as it did. -/
def fnBehindSpec : ChangeSpec := { name := "fnBehind", fn := fun _ => fun
  | [d] => { results := [.lit (.bool true)], args := [d] }
  | _ => none }
def fnBehindRow : OpenClaim := { program := "ytcgajgmcjgoipaa", sum := "dc7d6b6fc8630f8d0ceda09fa0dc383c63ef98007619c78543fd3723b2aadc77", func := "loop.example/wholenet/laws.FnBehind", spec := "fnBehind", unfollowed := true, recurses := true, apart := false }
def FnBehindSaid : Prop := fnBehindRow.holds Try.pinned (OpenSpec.ofChange fnBehindSpec)

/-- ITS FALSE NEIGHBOUR: 'it returns false'. Refute it at one input. -/
def fnBehindWrong : ChangeSpec := { name := "fnBehind", fn := fun _ => fun
  | [d] => { results := [.lit (.bool false)], args := [d] }
  | _ => none }
def FnBehindWrongFalsely : Prop := fnBehindRow.holds Try.pinned (OpenSpec.ofChange fnBehindWrong)

/-- 'laws.FnExactArrivalsOf': WHATEVER THE INPUT: true; the input reads as it did. -/
def fnExactArrivalsOfSpec : ChangeSpec := { name := "fnExactArrivalsOf", fn := fun _ => fun
  | [d1, d2] => { results := [.lit (.bool true)], args := [d1, d2] }
  | _ => none }
def fnExactArrivalsOfRow : OpenClaim := { program := "ytcgajgmcjgoipaa", sum := "dc7d6b6fc8630f8d0ceda09fa0dc383c63ef98007619c78543fd3723b2aadc77", func := "loop.example/wholenet/laws.FnExactArrivalsOf", spec := "fnExactArrivalsOf", unfollowed := true, recurses := true, apart := false }
def FnExactArrivalsOfSaid : Prop := fnExactArrivalsOfRow.holds Try.pinned (OpenSpec.ofChange fnExactArrivalsOfSpec)

/-- ITS FALSE NEIGHBOUR: 'it returns false'. Refute it at one input. -/
def fnExactArrivalsOfWrong : ChangeSpec := { name := "fnExactArrivalsOf", fn := fun _ => fun
  | [d1, d2] => { results := [.lit (.bool false)], args := [d1, d2] }
  | _ => none }
def FnExactArrivalsOfWrongFalsely : Prop := fnExactArrivalsOfRow.holds Try.pinned (OpenSpec.ofChange fnExactArrivalsOfWrong)

/-- 'laws.FnLost': WHATEVER THE INPUT: true; the input reads as it did. -/
def fnLostSpec : ChangeSpec := { name := "fnLost", fn := fun _ => fun
  | [d] => { results := [.lit (.bool true)], args := [d] }
  | _ => none }
def fnLostRow : OpenClaim := { program := "ytcgajgmcjgoipaa", sum := "dc7d6b6fc8630f8d0ceda09fa0dc383c63ef98007619c78543fd3723b2aadc77", func := "loop.example/wholenet/laws.FnLost", spec := "fnLost", unfollowed := true, recurses := true, apart := false }
def FnLostSaid : Prop := fnLostRow.holds Try.pinned (OpenSpec.ofChange fnLostSpec)

/-- ITS FALSE NEIGHBOUR: 'it returns false'. Refute it at one input. -/
def fnLostWrong : ChangeSpec := { name := "fnLost", fn := fun _ => fun
  | [d] => { results := [.lit (.bool false)], args := [d] }
  | _ => none }
def FnLostWrongFalsely : Prop := fnLostRow.holds Try.pinned (OpenSpec.ofChange fnLostWrong)

/-- 'laws.FnArrivals': WHATEVER THE INPUT: true; the input reads as it did. -/
def fnArrivalsSpec : ChangeSpec := { name := "fnArrivals", fn := fun _ => fun
  | [d] => { results := [.lit (.bool true)], args := [d] }
  | _ => none }
def fnArrivalsRow : OpenClaim := { program := "ytcgajgmcjgoipaa", sum := "dc7d6b6fc8630f8d0ceda09fa0dc383c63ef98007619c78543fd3723b2aadc77", func := "loop.example/wholenet/laws.FnArrivals", spec := "fnArrivals", unfollowed := true, recurses := true, apart := false }
def FnArrivalsSaid : Prop := fnArrivalsRow.holds Try.pinned (OpenSpec.ofChange fnArrivalsSpec)

/-- ITS FALSE NEIGHBOUR: 'it returns false'. Refute it at one input. -/
def fnArrivalsWrong : ChangeSpec := { name := "fnArrivals", fn := fun _ => fun
  | [d] => { results := [.lit (.bool false)], args := [d] }
  | _ => none }
def FnArrivalsWrongFalsely : Prop := fnArrivalsRow.holds Try.pinned (OpenSpec.ofChange fnArrivalsWrong)

/-- 'laws.FnArrivalsNear': WHATEVER THE INPUT: true; the input reads as it did. -/
def fnArrivalsNearSpec : ChangeSpec := { name := "fnArrivalsNear", fn := fun _ => fun
  | [d] => { results := [.lit (.bool true)], args := [d] }
  | _ => none }
def fnArrivalsNearRow : OpenClaim := { program := "ytcgajgmcjgoipaa", sum := "dc7d6b6fc8630f8d0ceda09fa0dc383c63ef98007619c78543fd3723b2aadc77", func := "loop.example/wholenet/laws.FnArrivalsNear", spec := "fnArrivalsNear", unfollowed := true, recurses := true, apart := false }
def FnArrivalsNearSaid : Prop := fnArrivalsNearRow.holds Try.pinned (OpenSpec.ofChange fnArrivalsNearSpec)

/-- ITS FALSE NEIGHBOUR: 'it returns false'. Refute it at one input. -/
def fnArrivalsNearWrong : ChangeSpec := { name := "fnArrivalsNear", fn := fun _ => fun
  | [d] => { results := [.lit (.bool false)], args := [d] }
  | _ => none }
def FnArrivalsNearWrongFalsely : Prop := fnArrivalsNearRow.holds Try.pinned (OpenSpec.ofChange fnArrivalsNearWrong)

/- THE SECOND FORM. 'bulk': how many values and letters a reading holds, each counted each time it is reached (what is shared counts as often as it is met; a slice's spare places count too). A statement '..UptoSaid' is the law's where the arguments, and the package variables that the reading takes, are together of bulk at most 1048576: NARROWER than '..Said'. Prove '..Said' where nothing that the law and all that it calls make is longer than what came in: it says more and counts as full. Else prove '..UptoSaid'. A law counts once. -/
mutual
def uptoBulk {H : Type} : DataW H → Nat
  | .lit (.string bytes) => bytes.length + 1
  | .lit _ => 1
  | .nil => 1
  | .ptr d => uptoBulk d + 1
  | .slice elems spare => uptoBulkAll elems + uptoBulkAll spare + 1
  | .agg parts => uptoBulkAll parts + 1
  | .iface _ d => uptoBulk d + 1
  | .map entries => uptoBulkEntries entries + 1
  | .held _ => 1
def uptoBulkAll {H : Type} : List (DataW H) → Nat
  | [] => 0
  | d :: r => uptoBulk d + uptoBulkAll r
def uptoBulkEntries {H : Type} : List (Lit × DataW H) → Nat
  | [] => 0
  | x :: r => uptoBulkEntry x + uptoBulkEntries r
def uptoBulkEntry {H : Type} : Lit × DataW H → Nat
  | (.string bytes, d) => bytes.length + uptoBulk d + 1
  | (_, d) => uptoBulk d + 1
 end
def uptoSmall : (H : Type) → List (DataW H) → Bool := fun _ ds => decide (uptoBulkAll ds ≤ 1048576)
def OpenSpec.upto (s : _root_.Go.ChangeSpec) : _root_.Go.OpenSpec := { _root_.Go.OpenSpec.ofChange s with cond := some uptoSmall }

/-- 'laws.FnExactFatesValid', WHERE WHAT IT READS IS OF BULK AT MOST 1048576: true; the input reads as it did. -/
def fnExactFatesValidUptoRow : OpenClaim := { program := "ytcgajgmcjgoipaa", sum := "dc7d6b6fc8630f8d0ceda09fa0dc383c63ef98007619c78543fd3723b2aadc77", func := "loop.example/wholenet/laws.FnExactFatesValid", spec := "fnExactFatesValid", unfollowed := true, recurses := true, apart := false, narrowed := true }
def FnExactFatesValidUptoSaid : Prop := fnExactFatesValidUptoRow.holds Try.pinned (OpenSpec.upto fnExactFatesValidSpec)

/-- 'laws.FnClear', WHERE WHAT IT READS IS OF BULK AT MOST 1048576: true; the input reads as it did. -/
def fnClearUptoRow : OpenClaim := { program := "ytcgajgmcjgoipaa", sum := "dc7d6b6fc8630f8d0ceda09fa0dc383c63ef98007619c78543fd3723b2aadc77", func := "loop.example/wholenet/laws.FnClear", spec := "fnClear", unfollowed := true, recurses := true, apart := false, narrowed := true }
def FnClearUptoSaid : Prop := fnClearUptoRow.holds Try.pinned (OpenSpec.upto fnClearSpec)

/-- 'laws.FnExactIsClear', WHERE WHAT IT READS IS OF BULK AT MOST 1048576: true; the input reads as it did. -/
def fnExactIsClearUptoRow : OpenClaim := { program := "ytcgajgmcjgoipaa", sum := "dc7d6b6fc8630f8d0ceda09fa0dc383c63ef98007619c78543fd3723b2aadc77", func := "loop.example/wholenet/laws.FnExactIsClear", spec := "fnExactIsClear", unfollowed := true, recurses := true, apart := false, narrowed := true }
def FnExactIsClearUptoSaid : Prop := fnExactIsClearUptoRow.holds Try.pinned (OpenSpec.upto fnExactIsClearSpec)

/-- 'laws.FnExactLinkBound', WHERE WHAT IT READS IS OF BULK AT MOST 1048576: true; the input reads as it did. -/
def fnExactLinkBoundUptoRow : OpenClaim := { program := "ytcgajgmcjgoipaa", sum := "dc7d6b6fc8630f8d0ceda09fa0dc383c63ef98007619c78543fd3723b2aadc77", func := "loop.example/wholenet/laws.FnExactLinkBound", spec := "fnExactLinkBound", unfollowed := true, recurses := true, apart := false, narrowed := true }
def FnExactLinkBoundUptoSaid : Prop := fnExactLinkBoundUptoRow.holds Try.pinned (OpenSpec.upto fnExactLinkBoundSpec)

/-- 'laws.FnPassWire', WHERE WHAT IT READS IS OF BULK AT MOST 1048576: true; the input reads as it did. -/
def fnPassWireUptoRow : OpenClaim := { program := "ytcgajgmcjgoipaa", sum := "dc7d6b6fc8630f8d0ceda09fa0dc383c63ef98007619c78543fd3723b2aadc77", func := "loop.example/wholenet/laws.FnPassWire", spec := "fnPassWire", unfollowed := true, recurses := true, apart := false, narrowed := true }
def FnPassWireUptoSaid : Prop := fnPassWireUptoRow.holds Try.pinned (OpenSpec.upto fnPassWireSpec)

/-- 'laws.FnExactFateOf', WHERE WHAT IT READS IS OF BULK AT MOST 1048576: true; the input reads as it did. -/
def fnExactFateOfUptoRow : OpenClaim := { program := "ytcgajgmcjgoipaa", sum := "dc7d6b6fc8630f8d0ceda09fa0dc383c63ef98007619c78543fd3723b2aadc77", func := "loop.example/wholenet/laws.FnExactFateOf", spec := "fnExactFateOf", unfollowed := true, recurses := true, apart := false, narrowed := true }
def FnExactFateOfUptoSaid : Prop := fnExactFateOfUptoRow.holds Try.pinned (OpenSpec.upto fnExactFateOfSpec)

/-- 'laws.FnExactPassWire', WHERE WHAT IT READS IS OF BULK AT MOST 1048576: true; the input reads as it did. -/
def fnExactPassWireUptoRow : OpenClaim := { program := "ytcgajgmcjgoipaa", sum := "dc7d6b6fc8630f8d0ceda09fa0dc383c63ef98007619c78543fd3723b2aadc77", func := "loop.example/wholenet/laws.FnExactPassWire", spec := "fnExactPassWire", unfollowed := true, recurses := true, apart := false, narrowed := true }
def FnExactPassWireUptoSaid : Prop := fnExactPassWireUptoRow.holds Try.pinned (OpenSpec.upto fnExactPassWireSpec)

/-- 'laws.FnExactLostIn', WHERE WHAT IT READS IS OF BULK AT MOST 1048576: true; the input reads as it did. -/
def fnExactLostInUptoRow : OpenClaim := { program := "ytcgajgmcjgoipaa", sum := "dc7d6b6fc8630f8d0ceda09fa0dc383c63ef98007619c78543fd3723b2aadc77", func := "loop.example/wholenet/laws.FnExactLostIn", spec := "fnExactLostIn", unfollowed := true, recurses := true, apart := false, narrowed := true }
def FnExactLostInUptoSaid : Prop := fnExactLostInUptoRow.holds Try.pinned (OpenSpec.upto fnExactLostInSpec)

/-- 'laws.FnExactFatesBehind', WHERE WHAT IT READS IS OF BULK AT MOST 1048576: true; the input reads as it did. -/
def fnExactFatesBehindUptoRow : OpenClaim := { program := "ytcgajgmcjgoipaa", sum := "dc7d6b6fc8630f8d0ceda09fa0dc383c63ef98007619c78543fd3723b2aadc77", func := "loop.example/wholenet/laws.FnExactFatesBehind", spec := "fnExactFatesBehind", unfollowed := true, recurses := true, apart := false, narrowed := true }
def FnExactFatesBehindUptoSaid : Prop := fnExactFatesBehindUptoRow.holds Try.pinned (OpenSpec.upto fnExactFatesBehindSpec)

/-- 'laws.FnBehind', WHERE WHAT IT READS IS OF BULK AT MOST 1048576: true; the input reads as it did. -/
def fnBehindUptoRow : OpenClaim := { program := "ytcgajgmcjgoipaa", sum := "dc7d6b6fc8630f8d0ceda09fa0dc383c63ef98007619c78543fd3723b2aadc77", func := "loop.example/wholenet/laws.FnBehind", spec := "fnBehind", unfollowed := true, recurses := true, apart := false, narrowed := true }
def FnBehindUptoSaid : Prop := fnBehindUptoRow.holds Try.pinned (OpenSpec.upto fnBehindSpec)

/-- 'laws.FnExactArrivalsOf', WHERE WHAT IT READS IS OF BULK AT MOST 1048576: true; the input reads as it did. -/
def fnExactArrivalsOfUptoRow : OpenClaim := { program := "ytcgajgmcjgoipaa", sum := "dc7d6b6fc8630f8d0ceda09fa0dc383c63ef98007619c78543fd3723b2aadc77", func := "loop.example/wholenet/laws.FnExactArrivalsOf", spec := "fnExactArrivalsOf", unfollowed := true, recurses := true, apart := false, narrowed := true }
def FnExactArrivalsOfUptoSaid : Prop := fnExactArrivalsOfUptoRow.holds Try.pinned (OpenSpec.upto fnExactArrivalsOfSpec)

/-- 'laws.FnLost', WHERE WHAT IT READS IS OF BULK AT MOST 1048576: true; the input reads as it did. -/
def fnLostUptoRow : OpenClaim := { program := "ytcgajgmcjgoipaa", sum := "dc7d6b6fc8630f8d0ceda09fa0dc383c63ef98007619c78543fd3723b2aadc77", func := "loop.example/wholenet/laws.FnLost", spec := "fnLost", unfollowed := true, recurses := true, apart := false, narrowed := true }
def FnLostUptoSaid : Prop := fnLostUptoRow.holds Try.pinned (OpenSpec.upto fnLostSpec)

/-- 'laws.FnArrivals', WHERE WHAT IT READS IS OF BULK AT MOST 1048576: true; the input reads as it did. -/
def fnArrivalsUptoRow : OpenClaim := { program := "ytcgajgmcjgoipaa", sum := "dc7d6b6fc8630f8d0ceda09fa0dc383c63ef98007619c78543fd3723b2aadc77", func := "loop.example/wholenet/laws.FnArrivals", spec := "fnArrivals", unfollowed := true, recurses := true, apart := false, narrowed := true }
def FnArrivalsUptoSaid : Prop := fnArrivalsUptoRow.holds Try.pinned (OpenSpec.upto fnArrivalsSpec)

/-- 'laws.FnArrivalsNear', WHERE WHAT IT READS IS OF BULK AT MOST 1048576: true; the input reads as it did. -/
def fnArrivalsNearUptoRow : OpenClaim := { program := "ytcgajgmcjgoipaa", sum := "dc7d6b6fc8630f8d0ceda09fa0dc383c63ef98007619c78543fd3723b2aadc77", func := "loop.example/wholenet/laws.FnArrivalsNear", spec := "fnArrivalsNear", unfollowed := true, recurses := true, apart := false, narrowed := true }
def FnArrivalsNearUptoSaid : Prop := fnArrivalsNearUptoRow.holds Try.pinned (OpenSpec.upto fnArrivalsNearSpec)

end Rows
end Go.Proofs.Ytcgajgmcjgoipaa
