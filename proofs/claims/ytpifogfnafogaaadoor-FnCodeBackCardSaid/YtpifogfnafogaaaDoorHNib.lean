/- The table of the nibble's code, read out of the package variable 'rules'; the contracts of 'place', 'within', EncodeNibble, DecodeNibble, which range over it. -/
import Derived.Maps.RangeWalk
import Derived.Maps.OwnSet
import Derived.WalkKit
import Derived.OwnWalk
import Derived.Tactics
import Derived.Deep.CutBlock
import Derived.Test.YtpifogfnafogaaaDoorHandBase
import Derived.Test.YtpifogfnafogaaaDoorProg
namespace Go.Proofs.YtpifogfnafogaaaDoor.Base
open Go.RowKit Go.Maps Go.Proofs.YtpifogfnafogaaaDoorW.PrintWords
set_option linter.unusedSimpArgs false

/-- A row of the table as it reads. -/
def rowD {H : Type} (x y z : Int) : DataW H := .slice [.lit (.int .i64 x), .lit (.int .i64 y), .lit (.int .i64 z)] []
/-- The table as it reads. -/
def tabD {H : Type} : DataW H := .map [(.int .i64 1, rowD 3 5 7), (.int .i64 2, rowD 3 6 7), (.int .i64 4, rowD 5 6 7)]

/-- The package variable holds the table. -/
def RulesAt (w : World) : Prop := ∃ (H : Type) (R : Value → Option (DataW H × List MemPlace)) (bm n : Nat), w.cell? ⟨0, 0, none⟩ = some (.map (some bm)) ∧ w.ownsMap Tryd.prog 3 R bm n (tabD (H := H)) ∧
  ∀ v y x0 x1 x2, R v = some y → y.1 = rowD x0 x1 x2 → ∃ ad c, v = .slice (some ad) 3 c ∧ w.cell? (ad.add 0) = some (.int .i64 x0) ∧ w.cell? (ad.add 1) = some (.int .i64 x1) ∧ w.cell? (ad.add 2) = some (.int .i64 x2)

theorem cell_lt {w : World} {p : Addr} {v : Value} (h : w.cell? p = some v) : p.block < w.heap.size := by
  unfold World.cell? at h
  rcases Nat.lt_or_ge p.block w.heap.size with h1 | h1
  · exact h1
  · rw [Array.getElem?_eq_none h1] at h
    simp at h
theorem cell_below {w w' : World} {n : Nat} {p : Addr} {v : Value} (h : w.cell? p = some v) (hB : Below n w w') (hn : n = w.heap.size) : w'.cell? p = some v := by
  have := cell_lt h
  rw [hB.cell (by omega)]
  exact h

theorem ranges_drewN {H : Type} {P : Program} {k : TypeId} {R : Value → Option (DataW H × List MemPlace)} {w : World} {b r n : Nat} {D : DataW H} {left : Lit → Bool} {cnt : Nat} (h : w.ranges P k R b r n D left cnt) (q : Nat) : (w.drewN q).ranges P k R b r n D left cnt := by
  unfold World.ranges at h ⊢
  simpa using h
theorem ownsMap_below {H : Type} {P : Program} {k : TypeId} {R : Value → Option (DataW H × List MemPlace)} {w w' : World} {b n m : Nat} {D : DataW H} (h : w.ownsMap P k R b n D) (hB : Below m w w') (hm : m = w.heap.size) : w'.ownsMap P k R b n D := by
  obtain ⟨es, clock, hb, F, hs, hD⟩ := h
  have hlt : b < w.heap.size := by
    rcases Nat.lt_or_ge b w.heap.size with h1 | h1
    · exact h1
    · rw [Array.getElem?_eq_none h1] at hb
      cases hb
  exact ⟨es, clock, by rw [hB.block b (by omega)]; exact hb, F, hs, hD⟩
theorem RulesAt.below {w w' : World} {m : Nat} (h : RulesAt w) (hB : Below m w w') (hm : m = w.heap.size) : RulesAt w' := by
  obtain ⟨H, R, bm, n, hc, ho, hR⟩ := h
  refine ⟨H, R, bm, n, cell_below hc hB hm, ownsMap_below ho hB hm, fun v y x0 x1 x2 hv hy => ?_⟩
  obtain ⟨ad, c, e, h0, h1, h2⟩ := hR v y x0 x1 x2 hv hy
  exact ⟨ad, c, e, cell_below h0 hB hm, cell_below h1 hB hm, cell_below h2 hB hm⟩

def bN (n : Int) (k : Int) : Int := n / k % 2
/-- The code of n without the checks that are still to come. -/
def encS (n : Int) (l1 l2 l4 : Bool) : Int := 16 * bN n 8 + 4 * bN n 4 + 2 * bN n 2 + bN n 1 + (if l1 then 0 else 64 * ((bN n 8 + bN n 4 + bN n 1) % 2)) + (if l2 then 0 else 32 * ((bN n 8 + bN n 2 + bN n 1) % 2)) + (if l4 then 0 else 8 * ((bN n 4 + bN n 2 + bN n 1) % 2))
def encN (n : Int) : Int := if 0 ≤ n ∧ n ≤ 15 then encS n false false false else -1

abbrev four : Value := .agg #[.int .i64 3, .int .i64 5, .int .i64 6, .int .i64 7]
theorem idx0 (w : World) : (Instr.index 36 four (.int .i64 0)).run Tryd.prog w = .ok (.int .i64 3) w := by kernel_rfl
theorem idx1 (w : World) : (Instr.index 36 four (.int .i64 1)).run Tryd.prog w = .ok (.int .i64 5) w := by kernel_rfl
theorem idx2 (w : World) : (Instr.index 36 four (.int .i64 2)).run Tryd.prog w = .ok (.int .i64 6) w := by kernel_rfl
theorem idx3 (w : World) : (Instr.index 36 four (.int .i64 3)).run Tryd.prog w = .ok (.int .i64 7) w := by kernel_rfl

theorem ownsMap_drewN {H : Type} {P : Program} {k : TypeId} {R : Value → Option (DataW H × List MemPlace)} {w : World} {b n : Nat} {D : DataW H} (h : w.ownsMap P k R b n D) (q : Nat) : (w.drewN q).ownsMap P k R b n D := by
  unfold World.ownsMap at h ⊢
  simpa using h
/-- The bit k (from below) of o. -/
def pl (o : Int) (k : Nat) : Int := Go.bits .and .i64 (o / 2 ^ k) 1
/-- The next code: the check of three places laid at c. -/
def stepE (o : Int) (k0 k1 k2 : Nat) (c : Int) : Int := Go.bits .or .i64 o (wrap64 (Go.bits .xor .i64 (Go.bits .xor .i64 (Go.bits .xor .i64 0 (pl o k0)) (pl o k1)) (pl o k2) * c))
theorem step1 : ∀ m : Fin 16, ∀ l2 l4 : Bool, stepE (encS (m.1 : Nat) true l2 l4) 4 2 0 64 = encS (m.1 : Nat) false l2 l4 := by decide +kernel
theorem step2 : ∀ m : Fin 16, ∀ l1 l4 : Bool, stepE (encS (m.1 : Nat) l1 true l4) 4 1 0 32 = encS (m.1 : Nat) l1 false l4 := by decide +kernel
theorem step4 : ∀ m : Fin 16, ∀ l1 l2 : Bool, stepE (encS (m.1 : Nat) l1 l2 true) 2 1 0 8 = encS (m.1 : Nat) l1 l2 false := by decide +kernel
theorem start0 : ∀ m : Fin 16, bits .or .i64 (bits .or .i64 (bits .or .i64 (bits .or .i64 0 (wrap64 (bits .and .i64 (((m.1 : Nat) : Int) / 8) 1 * 16))) (wrap64 (bits .and .i64 (((m.1 : Nat) : Int) / 4) 1 * 4))) (wrap64 (bits .and .i64 (((m.1 : Nat) : Int) / 2) 1 * 2))) (wrap64 (bits .and .i64 ((m.1 : Nat) : Int) 1)) = encS (m.1 : Nat) true true true := by decide +kernel
theorem fin_of {a : Int} (h : 0 ≤ a ∧ a ≤ 15) : ∃ m : Fin 16, a = ((m.1 : Nat) : Int) := ⟨⟨a.toNat, by omega⟩, by simp; omega⟩
theorem has_key {H : Type} : Maps.has (tabD (H := H)) (.int .i64 1) = true ∧ Maps.has (tabD (H := H)) (.int .i64 2) = true ∧ Maps.has (tabD (H := H)) (.int .i64 4) = true := ⟨rfl, rfl, rfl⟩
theorem law : Keyed Tryd.prog 3 := int_keyed Tryd.underlying3

/-- The place that is wrong, of the checks that are done. -/
def decW (n : Int) (l1 l2 l4 : Bool) : Int := (if l1 then 0 else (bN n 64 + bN n 16 + bN n 4 + bN n 1) % 2) + (if l2 then 0 else 2 * ((bN n 32 + bN n 16 + bN n 2 + bN n 1) % 2)) + (if l4 then 0 else 4 * ((bN n 8 + bN n 4 + bN n 2 + bN n 1) % 2))
def sumE (o : Int) (k k0 k1 k2 : Nat) : Int := Go.bits .xor .i64 (Go.bits .xor .i64 (Go.bits .xor .i64 (pl o k) (pl o k0)) (pl o k1)) (pl o k2)
def decO (n w : Int) : Int := if w = 0 then n else Go.bits .xor .i64 n (2 ^ (7 - w).toNat)
def fourN (o : Int) : Int := 8 * bN o 16 + 4 * bN o 4 + 2 * bN o 2 + bN o 1
def decN (n : Int) : Int × Int := if 0 ≤ n ∧ n ≤ 127 then (fourN (decO n (decW n false false false)), decW n false false false) else (-1, -1)
theorem fin7_of {a : Int} (h : 0 ≤ a ∧ a ≤ 127) : ∃ m : Fin 128, a = ((m.1 : Nat) : Int) := ⟨⟨a.toNat, by omega⟩, by simp; omega⟩
theorem dec_range : ∀ m : Fin 128, decW (m.1 : Nat) false false false = 0 ∨ decW (m.1 : Nat) false false false = 1 ∨ decW (m.1 : Nat) false false false = 2 ∨ decW (m.1 : Nat) false false false = 3 ∨ decW (m.1 : Nat) false false false = 4 ∨ decW (m.1 : Nat) false false false = 5 ∨ decW (m.1 : Nat) false false false = 6 ∨ decW (m.1 : Nat) false false false = 7 := by decide +kernel

theorem stepD1 : ∀ m : Fin 128, ∀ l2 l4 : Bool, wrap64 (decW (m.1 : Nat) true l2 l4 + wrap64 (sumE (m.1 : Nat) 6 4 2 0)) = decW (m.1 : Nat) false l2 l4 := by decide +kernel
theorem stepD2 : ∀ m : Fin 128, ∀ l1 l4 : Bool, wrap64 (decW (m.1 : Nat) l1 true l4 + wrap64 (sumE (m.1 : Nat) 5 4 1 0 * 2)) = decW (m.1 : Nat) l1 false l4 := by decide +kernel
theorem stepD4 : ∀ m : Fin 128, ∀ l1 l2 : Bool, wrap64 (decW (m.1 : Nat) l1 l2 true + wrap64 (sumE (m.1 : Nat) 3 2 1 0 * 4)) = decW (m.1 : Nat) l1 l2 false := by decide +kernel

def fourE (o : Int) : Int := wrap64 (wrap64 (2 * wrap64 (wrap64 (2 * wrap64 (wrap64 (2 * wrap64 (pl o 4)) + pl o 2)) + pl o 1)) + pl o 0)
theorem end0 : ∀ m : Fin 128, fourE (m.1 : Nat) = fourN (decO (m.1 : Nat) 0) := by decide +kernel
theorem end1 : ∀ m : Fin 128, fourE (bits .xor .i64 (m.1 : Nat) 64) = fourN (decO (m.1 : Nat) 1) := by decide +kernel
theorem end2 : ∀ m : Fin 128, fourE (bits .xor .i64 (m.1 : Nat) 32) = fourN (decO (m.1 : Nat) 2) := by decide +kernel
theorem end3 : ∀ m : Fin 128, fourE (bits .xor .i64 (m.1 : Nat) 16) = fourN (decO (m.1 : Nat) 3) := by decide +kernel
theorem end4 : ∀ m : Fin 128, fourE (bits .xor .i64 (m.1 : Nat) 8) = fourN (decO (m.1 : Nat) 4) := by decide +kernel
theorem end5 : ∀ m : Fin 128, fourE (bits .xor .i64 (m.1 : Nat) 4) = fourN (decO (m.1 : Nat) 5) := by decide +kernel
theorem end6 : ∀ m : Fin 128, fourE (bits .xor .i64 (m.1 : Nat) 2) = fourN (decO (m.1 : Nat) 6) := by decide +kernel
theorem end7 : ∀ m : Fin 128, fourE (bits .xor .i64 (m.1 : Nat) 1) = fourN (decO (m.1 : Nat) 7) := by decide +kernel

/-- The rows of the table, by key. -/
theorem tab_has {H : Type} {kl : Lit} (h : Maps.has (tabD (H := H)) kl = true) : kl = .int .i64 1 ∨ kl = .int .i64 2 ∨ kl = .int .i64 4 := by
  simp [tabD, Maps.has] at h
  rcases h with h | h | h
  · exact .inl (WideAt.sameKey_eq h).symm
  · exact .inr (.inl (WideAt.sameKey_eq h).symm)
  · exact .inr (.inr (WideAt.sameKey_eq h).symm)
end Go.Proofs.YtpifogfnafogaaaDoor.Base
