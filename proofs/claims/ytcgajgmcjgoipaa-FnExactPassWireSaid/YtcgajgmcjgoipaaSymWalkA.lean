/-
  What is told of the program, once, to the walks of the stable sort: the types by number, the bodies.
  slices.swapRangeCmpFunc and slices.rotateCmpFunc over a row of structs of two cells: two stretches exchanged; two parts turned about.
-/
import Derived.Shelf.SlSortCmp.KitK
import Derived.Sort.WalkB2
import Derived.Sort.WalkB12
import Derived.Deep.LoopGhost
import Derived.Test.YtcgajgmcjgoipaaProg
import Derived.Test.YtcgajgmcjgoipaaSymPure
namespace Go.Proofs.Ytcgajgmcjgoipaa.Stab
open Go.Shelf Go.RowKit Go.Lib Go.Sort

structure Facts (P : Program) (k : Nat) : Prop where
  mixed : P.follows .mixedOrders = true
  t0 : P.underlying 0 = some (TypeDesc.tuple #[])
  a0 : ∀ w, (isAgg 0).run P w = .ok false w
  z0 : ∀ w, (Go.sizeOf 0).run P w = .ok 1 w
  v0 : ∀ w, (zeroValue 0).run P w = .ok (Value.tuple #[]) w
  t3 : P.underlying 3 = some (TypeDesc.int IntKind.i64)
  a3 : ∀ w, (isAgg 3).run P w = .ok false w
  z3 : ∀ w, (Go.sizeOf 3).run P w = .ok 1 w
  v3 : ∀ w, (zeroValue 3).run P w = .ok (Value.int IntKind.i64 0) w
  t4 : P.underlying 4 = some (TypeDesc.bool)
  a4 : ∀ w, (isAgg 4).run P w = .ok false w
  z4 : ∀ w, (Go.sizeOf 4).run P w = .ok 1 w
  v4 : ∀ w, (zeroValue 4).run P w = .ok (Value.bool false) w
  t60 : P.underlying 60 = some (TypeDesc.slice 62)
  a60 : ∀ w, (isAgg 60).run P w = .ok false w
  z60 : ∀ w, (Go.sizeOf 60).run P w = .ok 1 w
  v60 : ∀ w, (zeroValue 60).run P w = .ok (Value.slice none 0 0) w
  t66 : P.underlying 66 = some (TypeDesc.func #[62, 62] #[3] false)
  a66 : ∀ w, (isAgg 66).run P w = .ok false w
  z66 : ∀ w, (Go.sizeOf 66).run P w = .ok 1 w
  v66 : ∀ w, (zeroValue 66).run P w = .ok (Value.nilFunc) w
  t80 : P.underlying 80 = some (TypeDesc.int IntKind.u64)
  a80 : ∀ w, (isAgg 80).run P w = .ok false w
  z80 : ∀ w, (Go.sizeOf 80).run P w = .ok 1 w
  v80 : ∀ w, (zeroValue 80).run P w = .ok (Value.int IntKind.u64 0) w
  aE : ∀ w, (isAgg 62).run P w = .ok true w
  zE : ∀ w, (Go.sizeOf 62).run P w = .ok k w
  f_swr : P.funcs[100]? = some Try.f100
  f_rot : P.funcs[99]? = some Try.f99
  f_sym : P.funcs[98]? = some Try.f98
  f_ins : P.funcs[97]? = some Try.f97
  f_stb : P.funcs[93]? = some Try.f93

theorem facts : Facts Try.prog 2 where
  mixed := by kernel_rfl
  t0 := Try.underlying0
  a0 := Try.isAgg0
  z0 := Try.sizeOf0
  v0 := Try.zeroValue0
  t3 := Try.underlying3
  a3 := Try.isAgg3
  z3 := Try.sizeOf3
  v3 := Try.zeroValue3
  t4 := Try.underlying4
  a4 := Try.isAgg4
  z4 := Try.sizeOf4
  v4 := Try.zeroValue4
  t60 := Try.underlying60
  a60 := Try.isAgg60
  z60 := Try.sizeOf60
  v60 := Try.zeroValue60
  t66 := Try.underlying66
  a66 := Try.isAgg66
  z66 := Try.sizeOf66
  v66 := Try.zeroValue66
  t80 := Try.underlying80
  a80 := Try.isAgg80
  z80 := Try.sizeOf80
  v80 := Try.zeroValue80
  aE := Try.isAgg62
  zE := Try.sizeOf62
  f_swr := Try.func100
  f_rot := Try.func99
  f_sym := Try.func98
  f_ins := Try.func97
  f_stb := Try.func93

end Go.Proofs.Ytcgajgmcjgoipaa.Stab

namespace Go.Proofs.Ytcgajgmcjgoipaa.Stab
open Go.Shelf Go.RowKit Go.Lib Go.Sort
variable {P : Program} {k : Nat} {α : Type} [Inhabited α]

set_option maxHeartbeats 4000000 in
set_option maxRecDepth 1000000 in
theorem swapRange (L : Facts P k) (enc : α → List Value) (g : Nat) (cb : Array Value) (blk off cap a b n : Nat) (d0 d : Array α) (w0 w : World) (R : RowK enc k w0 blk off d0) (hs : d0.size = d.size) (S : SWK enc k w0 blk off d w)
    (ha : a + n ≤ d.size) (hb : b + n ≤ d.size) (hsz : d.size < 4611686018427387904) :
    Calls P 100 #[.slice (some ⟨blk, off, none⟩) d.size cap, .int .i64 a, .int .i64 b, .int .i64 n, .func (.func g) #[] cb] w fun e w' =>
      e = .returned (.tuple #[]) ∧ SWK enc k w0 blk off (swpR a b n d) w' := by
  have mixed := L.mixed; have t0 := L.t0; have a0 := L.a0; have z0 := L.z0; have v0 := L.v0; have t3 := L.t3; have a3 := L.a3; have z3 := L.z3; have v3 := L.v3; have t4 := L.t4; have a4 := L.a4; have z4 := L.z4; have v4 := L.v4; have t60 := L.t60; have a60 := L.a60; have z60 := L.z60; have v60 := L.v60; have t66 := L.t66; have a66 := L.a66; have z66 := L.z66; have v66 := L.v66; have t80 := L.t80; have a80 := L.a80; have z80 := L.z80; have v80 := L.v80; have aE := L.aE; have zE := L.zE
  have S0 : Aside (SWK enc k w0 blk off d w) := S
  clear S
  go_enter L.f_swr, Try.ntmps100
  go_wp2
  go_loopg [10] n (fun kx s10 wr => ∃ (i : Nat), s10 = .int .i64 i ∧ i ≤ n ∧ n - i ≤ kx ∧ Aside (SWK enc k w0 blk off (swpR a b i d) wr))
  case atStart => exact ⟨0, rfl, Nat.zero_le _, by omega, S0⟩
  case round =>
    clear S0
    obtain ⟨i, rfl, hi, hkx, S1⟩ := hrel
    have hds : (swpR a b i d).size = d.size := size_swpR a b i d
    by_cases hlt : i < n
    · have hltz : (i : Int) < (n : Int) := by omega
      generalize hdk : swpR a b i d = dk at S1 hds
      have HD : Hid (swpR a b i d = dk) := hdk
      clear hdk
      have ea44 : ((a : Int) + (i : Int)).toNat = a + i := by omega
      have pa44 : (0 : Int) ≤ (a : Int) + (i : Int) := by omega
      have ba44 : (a : Int) + (i : Int) < (d.size : Int) := by omega
      have ra44 : IntKind.i64.wrap ((a : Int) + (i : Int)) = (a : Int) + (i : Int) := by rw [IntKind.wrap_i64]; omega
      have ec44 : ((b : Int) + (i : Int)).toNat = b + i := by omega
      have pc44 : (0 : Int) ≤ (b : Int) + (i : Int) := by omega
      have bc44 : (b : Int) + (i : Int) < (d.size : Int) := by omega
      have rc44 : IntKind.i64.wrap ((b : Int) + (i : Int)) = (b : Int) + (i : Int) := by rw [IntKind.wrap_i64]; omega
      have S2 : Aside (SWK enc k w0 blk off (swp dk (a + i) (b + i)) ((wr.drew.setCells blk (off + (a + i) * k) (enc dk[b + i]!)).setCells blk (off + (b + i) * k) (enc dk[a + i]!))) := S1.out.swapped R (a + i) (b + i) (by omega) (by omega)
      have l44a := S1.out.ld1 R (by omega) P (a + i) (by omega)
      have l44b := S1.out.ld1 R (by omega) P (b + i) (by omega)
      have s44a := S1.out.st1 R (by omega) P (a + i) (by omega) dk[b + i]!
      have s44b := S1.out.st2 R (by omega) P (a + i) (b + i) (by omega) (by omega) dk[b + i]! dk[a + i]!
      have n44a : (enc dk[a + i]!).length = k := R.hk _
      have n44b : (enc dk[b + i]!).length = k := R.hk _
      generalize enc dk[a + i]! = cI44 at S2 l44a s44b n44a
      generalize enc dk[b + i]! = cJ44 at S2 l44b s44a s44b n44b
      clear S1
      go_wp2_with fail
      go_big_region_o
      clear l44a l44b s44a s44b
      generalize (wr.drew.setCells blk (off + (a + i) * k) cJ44).setCells blk (off + (b + i) * k) cI44 = w2 at S2 ⊢
      go_wp2
      go_roundg (n - (i + 1))
      case measure => omega
      case rel => exact ⟨i + 1, by go_num, by omega, by omega, by rw [swpR, HD.out]; exact S2⟩
    · have hltz : ¬ (i : Int) < (n : Int) := by omega
      obtain rfl : i = n := by omega
      go_wp2
      go_end0
      exact ⟨rfl, S1.out⟩

set_option maxHeartbeats 4000000 in
set_option maxRecDepth 1000000 in
theorem rotate (L : Facts P k) (enc : α → List Value) (g : Nat) (cb : Array Value) (blk off cap a m b : Nat) (d0 d : Array α) (w0 w : World) (R : RowK enc k w0 blk off d0) (hs : d0.size = d.size) (S : SWK enc k w0 blk off d w)
    (ham : a < m) (hmb : m < b) (hb : b ≤ d.size) (hsz : d.size < 4611686018427387904) :
    Calls P 99 #[.slice (some ⟨blk, off, none⟩) d.size cap, .int .i64 a, .int .i64 m, .int .i64 b, .func (.func g) #[] cb] w fun e w' =>
      e = .returned (.tuple #[]) ∧ ∃ d', SWK enc k w0 blk off d' w' ∧ RotEq a m b d d' ∧ PermIn a b d d' := by
  have mixed := L.mixed; have t0 := L.t0; have a0 := L.a0; have z0 := L.z0; have v0 := L.v0; have t3 := L.t3; have a3 := L.a3; have z3 := L.z3; have v3 := L.v3; have t4 := L.t4; have a4 := L.a4; have z4 := L.z4; have v4 := L.v4; have t60 := L.t60; have a60 := L.a60; have z60 := L.z60; have v60 := L.v60; have t66 := L.t66; have a66 := L.a66; have z66 := L.z66; have v66 := L.v66; have t80 := L.t80; have a80 := L.a80; have z80 := L.z80; have v80 := L.v80; have aE := L.aE; have zE := L.zE
  have e100 : ∀ args w, (callFunc 100 args).run P w = .ok (.enter 100 args) w := enters_of L.f_swr (by kernel_rfl) rfl
  have S0 : Aside (SWK enc k w0 blk off d w) := S
  clear S
  go_enter L.f_rot, Try.ntmps99
  go_wp2
  go_loopg [10, 11] (b - a) (fun kx s10 s11 wr => ∃ (i j : Nat) (dk : Array α), s10 = .int .i64 i ∧ s11 = .int .i64 j ∧ 0 < i ∧ 0 < j ∧ i ≤ m - a ∧ j ≤ b - m ∧ i + j ≤ kx ∧ Aside (SWK enc k w0 blk off dk wr) ∧ Hid (PermIn a b d dk) ∧ dk.size = d.size ∧ Hid (∀ r, RotEq (m - i) m (m + j) dk r → RotEq a m b d r))
  case atStart => exact ⟨m - a, b - m, d, by congr 1; omega, by congr 1; omega, by omega, by omega, by omega, by omega, by omega, S0, permIn_refl _ _ _, rfl, fun r h => by rwa [show m - (m - a) = a by omega, show m + (b - m) = b by omega] at h⟩
  case round =>
    clear S0
    obtain ⟨i, j, dk, rfl, rfl, hi, hj, him, hjm, hkx, S1, HP, hds, HR⟩ := hrel
    by_cases hij : i = j
    · subst hij
      have hne : ¬ ((i : Int) ≠ (i : Int)) := fun h => h rfl
      have hcall := swapRange L enc g cb blk off cap (m - i) m i d0 dk w0 wr R (by omega) S1.out (by omega) (by omega) (by omega)
      rw [hds, show ((m - i : Nat) : Int) = (m : Int) - (i : Int) by omega] at hcall
      clear S1
      go_wp2_with (go_at_fn 100; refine hcall.mono ?_; rintro e w1 ⟨rfl, S3⟩)
      go_end0
      exact ⟨rfl, _, S3, HR.out _ (rot_even (by omega) (by omega)), permIn_trans _ _ _ _ _ HP.out (swpR_permIn _ _ _ _ _ _ (by omega) (by omega) (by omega) (by omega) (by omega))⟩
    · have hne : (i : Int) ≠ (j : Int) := by omega
      by_cases hgt : j < i
      · have hgtz : (j : Int) < (i : Int) := by omega
        have hcall := swapRange L enc g cb blk off cap (m - i) m j d0 dk w0 wr R (by omega) S1.out (by omega) (by omega) (by omega)
        rw [hds, show ((m - i : Nat) : Int) = (m : Int) - (i : Int) by omega] at hcall
        clear S1
        go_wp2_with (go_at_fn 100; refine hcall.mono ?_; rintro e w1 ⟨rfl, S3⟩)
        go_roundg i
        case measure => omega
        case rel =>
          exact ⟨i - j, j, _, by congr 1; omega, rfl, by omega, hj, by omega, hjm, by omega, S3, permIn_trans _ _ _ _ _ HP.out (swpR_permIn _ _ _ _ _ _ (by omega) (by omega) (by omega) (by omega) (by omega)), by rw [size_swpR, hds], fun r h => HR.out r (rot_left hgt (by omega) (by omega) h)⟩
      · have hgtz : ¬ (j : Int) < (i : Int) := by omega
        have hcall := swapRange L enc g cb blk off cap (m - i) (m + j - i) i d0 dk w0 wr R (by omega) S1.out (by omega) (by omega) (by omega)
        rw [hds, show ((m - i : Nat) : Int) = (m : Int) - (i : Int) by omega, show ((m + j - i : Nat) : Int) = (m : Int) + (j : Int) - (i : Int) by omega] at hcall
        clear S1
        go_wp2_with (go_at_fn 100; refine hcall.mono ?_; rintro e w1 ⟨rfl, S3⟩)
        go_roundg j
        case measure => omega
        case rel =>
          exact ⟨i, j - i, _, rfl, by congr 1; omega, hi, by omega, him, by omega, by omega, S3, permIn_trans _ _ _ _ _ HP.out (swpR_permIn _ _ _ _ _ _ (by omega) (by omega) (by omega) (by omega) (by omega)), by rw [size_swpR, hds], fun r h => HR.out r (rot_right (by omega) (by omega) (by omega) h)⟩

end Go.Proofs.Ytcgajgmcjgoipaa.Stab
