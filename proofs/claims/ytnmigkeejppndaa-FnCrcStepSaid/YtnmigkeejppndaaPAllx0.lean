-- WRITTEN BY A PROGRAM OF THIS SESSION (wip/tools/printall.py) over the kit's print: what each Go function answers, and that the machine's call does so. Lean checks it.
import Derived.Test.YtnmigkeejppndaaProg
import Derived.Below
import Derived.Deep.Draws
import Derived.Deep.AppendLies
import Derived.Maps.AppendAt
import Derived.OwnWalk
import Derived.Laws.BytesArg
import Derived.Laws.MakeOwn
import Derived.Laws.OwnMore
import Derived.Deep.OwnRows
import Derived.Tactics
import Derived.Lib.ConvBytes
import Derived.Laws.Slices
import Derived.WalkKit
import Derived.KernelRfl
import Derived.RowKit3
import Derived.Deep.LoopGhost
import Derived.Deep.QuietTactic
import Derived.BigQuiet
import Derived.WideLaws
import Derived.Deep.DeepCutAuto
import Derived.Deep.CutBlock
import Derived.Deep.RegionHeld3
import Derived.Laws.Rows
import Derived.Lib.AppendStr
import Derived.ArgAppend
import Derived.Laws.IdiomCopy
import Derived.OrdersHeld
import Derived.Laws.BitsLemmas
import Derived.RowKit
import Derived.Test.YtnmigkeejppndaaHandBase
import Derived.Test.YtnmigkeejppndaaWWords
import Derived.Test.YtnmigkeejppndaaWLast
import Derived.Test.YtnmigkeejppndaaWTab
import Derived.Test.YtnmigkeejppndaaWFour
import Derived.Test.YtnmigkeejppndaaWQPut
import Derived.Test.YtnmigkeejppndaaWApart
import Derived.Test.YtnmigkeejppndaaWArr
import Derived.Test.YtnmigkeejppndaaWZeros
import Derived.Test.YtnmigkeejppndaaWFoot
import Derived.Test.YtnmigkeejppndaaWKept
import Derived.Test.YtnmigkeejppndaaWShare
import Derived.Test.YtnmigkeejppndaaWN
import Derived.Test.YtnmigkeejppndaaWFootNe
import Derived.Test.YtnmigkeejppndaaWAt
import Derived.Test.YtnmigkeejppndaaWEqStruct
import Derived.Test.YtnmigkeejppndaaWRepsOne
import Derived.Test.YtnmigkeejppndaaWInv
import Derived.Test.YtnmigkeejppndaaWInvWords
import Derived.Test.YtnmigkeejppndaaWGuard
import Derived.Test.YtnmigkeejppndaaWNEv
import Derived.Test.YtnmigkeejppndaaWMore
namespace Go.Proofs.Ytnmigkeejppndaa.PAll
open Go.RowKit Go.Proofs.YtnmigkeejppndaaW.PrintWords Go.Proofs.YtnmigkeejppndaaW.PrintLast Go.Proofs.YtnmigkeejppndaaW.PrintMore
attribute [local go_sem] max2_int min2_int max_two min_two max_three min_three max_four min_four   -- for this text's walks alone
set_option linter.unusedVariables false
set_option linter.unusedSimpArgs false



def errW : Option Int → Value
  | none => .nilIface
  | some c => .iface 0 (.int .i64 c)
theorem errW_none : errW none = .nilIface := rfl
theorem errW_some (c : Int) : errW (some c) = .iface 0 (.int .i64 c) := rfl

theorem info3 : (Try.prog.info? 3).map (fun i => (i.zero, i.size, i.bytes)) = some (some (.int .i64 0), 1, 8) := by kernel_rfl
theorem info5 : (Try.prog.info? 5).map (fun i => (i.zero, i.size, i.bytes)) = some (some (.int .u8 0), 1, 1) := by kernel_rfl
-- the values' own types

end Go.Proofs.Ytnmigkeejppndaa.PAll
