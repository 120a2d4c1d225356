/-
  What is told of the program, once, to the walks of the stable sort: the types by number, the bodies.
-/
import Derived.Shelf.SlSortCmp.KitK
import Derived.Sort.WalkB2
import Derived.Sort.WalkB12
import Derived.Deep.LoopGhost
import Derived.Test.YtcgajgmcjgoipaaProg
namespace Go.Proofs.Ytcgajgmcjgoipaa.Stab
open Go.Shelf Go.RowKit Go.Lib Go.Sort

structure Facts (P : Program) (k : Nat) : Prop where
  mixed : P.follows .mixedOrders = true
  t0 : P.underlying 0 = some (TypeDesc.tuple #[])
  a0 : ∀ w, (isAgg 0).run P w = .ok false w
  z0 : ∀ w, (Go.sizeOf 0).run P w = .ok 1 w
  v0 : ∀ w, (zeroValue 0).run P w = .ok (Value.tuple #[]) w
  t3 : P.underlying 3 = some (TypeDesc.int IntKind.i64)
  a3 : ∀ w, (isAgg 3).run P w = .ok false w
  z3 : ∀ w, (Go.sizeOf 3).run P w = .ok 1 w
  v3 : ∀ w, (zeroValue 3).run P w = .ok (Value.int IntKind.i64 0) w
  t4 : P.underlying 4 = some (TypeDesc.bool)
  a4 : ∀ w, (isAgg 4).run P w = .ok false w
  z4 : ∀ w, (Go.sizeOf 4).run P w = .ok 1 w
  v4 : ∀ w, (zeroValue 4).run P w = .ok (Value.bool false) w
  t60 : P.underlying 60 = some (TypeDesc.slice 62)
  a60 : ∀ w, (isAgg 60).run P w = .ok false w
  z60 : ∀ w, (Go.sizeOf 60).run P w = .ok 1 w
  v60 : ∀ w, (zeroValue 60).run P w = .ok (Value.slice none 0 0) w
  t66 : P.underlying 66 = some (TypeDesc.func #[62, 62] #[3] false)
  a66 : ∀ w, (isAgg 66).run P w = .ok false w
  z66 : ∀ w, (Go.sizeOf 66).run P w = .ok 1 w
  v66 : ∀ w, (zeroValue 66).run P w = .ok (Value.nilFunc) w
  t80 : P.underlying 80 = some (TypeDesc.int IntKind.u64)
  a80 : ∀ w, (isAgg 80).run P w = .ok false w
  z80 : ∀ w, (Go.sizeOf 80).run P w = .ok 1 w
  v80 : ∀ w, (zeroValue 80).run P w = .ok (Value.int IntKind.u64 0) w
  aE : ∀ w, (isAgg 62).run P w = .ok true w
  zE : ∀ w, (Go.sizeOf 62).run P w = .ok k w
  f_swr : P.funcs[100]? = some Try.f100
  f_rot : P.funcs[99]? = some Try.f99
  f_sym : P.funcs[98]? = some Try.f98
  f_ins : P.funcs[97]? = some Try.f97
  f_stb : P.funcs[93]? = some Try.f93

theorem facts : Facts Try.prog 2 where
  mixed := by kernel_rfl
  t0 := Try.underlying0
  a0 := Try.isAgg0
  z0 := Try.sizeOf0
  v0 := Try.zeroValue0
  t3 := Try.underlying3
  a3 := Try.isAgg3
  z3 := Try.sizeOf3
  v3 := Try.zeroValue3
  t4 := Try.underlying4
  a4 := Try.isAgg4
  z4 := Try.sizeOf4
  v4 := Try.zeroValue4
  t60 := Try.underlying60
  a60 := Try.isAgg60
  z60 := Try.sizeOf60
  v60 := Try.zeroValue60
  t66 := Try.underlying66
  a66 := Try.isAgg66
  z66 := Try.sizeOf66
  v66 := Try.zeroValue66
  t80 := Try.underlying80
  a80 := Try.isAgg80
  z80 := Try.sizeOf80
  v80 := Try.zeroValue80
  aE := Try.isAgg62
  zE := Try.sizeOf62
  f_swr := Try.func100
  f_rot := Try.func99
  f_sym := Try.func98
  f_ins := Try.func97
  f_stb := Try.func93

end Go.Proofs.Ytcgajgmcjgoipaa.Stab
