/-
  DERIVED. GIVEN WITH THE SEED: THE PROGRAM's TIES (one call each: nine closed facts by the kernel) AND EACH ROW's TIE, after the 31st guide's Derived/Test/Toyas{Tie, Card}.lean. No idea stands in it: it is a product of the set-up. Laid BY PROGRAM, IN A SANDBOX (cutbox-door.mjs). By AI agents, Wed Nov 11 2026. No macro, syntax, notation, axiom, sorry.
-/
import Derived.Test.YtpifogfnafogaaaDoorRows
import Derived.LaidByTextLater
import Derived.SevenTiedAt
import Derived.LaidSub
import Derived.LaidOnce
namespace Go.Proofs.YtpifogfnafogaaaDoor
open Go
set_option maxRecDepth 100000
theorem seatTie1 : Tryd.prog.laidByTextLater [("loop.example/wholenet/impl.rules", Rows.laid_loop_example_wholenet_impl_rules)] [.mappedDeep] true :=
  Program.laidByTextLater_by_one 32 8 4 (by kernel_rfl) (by kernel_rfl) (by kernel_rfl) (by kernel_rfl) (by kernel_rfl) (by kernel_rfl) (fun _ _ => by kernel_rfl)
theorem noOwnUnsafe : Tryd.pinned.checked.prog.headLifts.contains "ownunsafe" = false := by kernel_rfl
theorem tie : Tryd.prog.laidByTextLater [("loop.example/wholenet/impl.rules", Rows.laid_loop_example_wholenet_impl_rules)] [.mappedDeep] true :=
  Program.laidByTextLater.sub seatTie1 ["loop.example/wholenet/impl.rules"] (by kernel_rfl) (by kernel_rfl)
theorem fnExactEncodeNibble_row_tie : Rows.fnExactEncodeNibbleRow.laidByTextAt .later Tryd.pinned [.mappedDeep] true :=
  OpenClaim.laidByTextAt_later rfl rfl tie noOwnUnsafe
theorem fnExactDecodeNibble_row_tie : Rows.fnExactDecodeNibbleRow.laidByTextAt .later Tryd.pinned [.mappedDeep] true :=
  OpenClaim.laidByTextAt_later rfl rfl tie noOwnUnsafe
theorem fnNibble_row_tie : Rows.fnNibbleRow.laidByTextAt .later Tryd.pinned [.mappedDeep] true :=
  OpenClaim.laidByTextAt_later rfl rfl tie noOwnUnsafe
theorem fnNibbleFar_row_tie : Rows.fnNibbleFarRow.laidByTextAt .later Tryd.pinned [.mappedDeep] true :=
  OpenClaim.laidByTextAt_later rfl rfl tie noOwnUnsafe
theorem fnExactEncodeBytes_row_tie : Rows.fnExactEncodeBytesRow.laidByTextAt .later Tryd.pinned [.mappedDeep] true :=
  OpenClaim.laidByTextAt_later rfl rfl tie noOwnUnsafe
theorem fnExactDecodeBytes_row_tie : Rows.fnExactDecodeBytesRow.laidByTextAt .later Tryd.pinned [.mappedDeep] true :=
  OpenClaim.laidByTextAt_later rfl rfl tie noOwnUnsafe
theorem fnCodeBack_row_tie : Rows.fnCodeBackRow.laidByTextAt .later Tryd.pinned [.mappedDeep] true :=
  OpenClaim.laidByTextAt_later rfl rfl tie noOwnUnsafe
theorem fnDecodeBytes_row_tie : Rows.fnDecodeBytesRow.laidByTextAt .later Tryd.pinned [.mappedDeep] true :=
  OpenClaim.laidByTextAt_later rfl rfl tie noOwnUnsafe
theorem fnExactEncodeNibbleUpto_row_tie : Rows.fnExactEncodeNibbleUptoRow.laidByTextAt .later Tryd.pinned [.mappedDeep] true :=
  OpenClaim.laidByTextAt_later rfl rfl tie noOwnUnsafe
theorem fnExactDecodeNibbleUpto_row_tie : Rows.fnExactDecodeNibbleUptoRow.laidByTextAt .later Tryd.pinned [.mappedDeep] true :=
  OpenClaim.laidByTextAt_later rfl rfl tie noOwnUnsafe
theorem fnNibbleUpto_row_tie : Rows.fnNibbleUptoRow.laidByTextAt .later Tryd.pinned [.mappedDeep] true :=
  OpenClaim.laidByTextAt_later rfl rfl tie noOwnUnsafe
theorem fnNibbleFarUpto_row_tie : Rows.fnNibbleFarUptoRow.laidByTextAt .later Tryd.pinned [.mappedDeep] true :=
  OpenClaim.laidByTextAt_later rfl rfl tie noOwnUnsafe
theorem fnExactEncodeBytesUpto_row_tie : Rows.fnExactEncodeBytesUptoRow.laidByTextAt .later Tryd.pinned [.mappedDeep] true :=
  OpenClaim.laidByTextAt_later rfl rfl tie noOwnUnsafe
theorem fnExactDecodeBytesUpto_row_tie : Rows.fnExactDecodeBytesUptoRow.laidByTextAt .later Tryd.pinned [.mappedDeep] true :=
  OpenClaim.laidByTextAt_later rfl rfl tie noOwnUnsafe
theorem fnCodeBackUpto_row_tie : Rows.fnCodeBackUptoRow.laidByTextAt .later Tryd.pinned [.mappedDeep] true :=
  OpenClaim.laidByTextAt_later rfl rfl tie noOwnUnsafe
theorem fnDecodeBytesUpto_row_tie : Rows.fnDecodeBytesUptoRow.laidByTextAt .later Tryd.pinned [.mappedDeep] true :=
  OpenClaim.laidByTextAt_later rfl rfl tie noOwnUnsafe
end Go.Proofs.YtpifogfnafogaaaDoor
