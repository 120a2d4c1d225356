/- What the program's flip of one bit of data answers, for every index. -/
import Derived.Test.YtolgcoapehmekaaPAllx2
import Derived.Test.YtolgcoapehmekaaPAllx9
import Derived.Test.YtolgcoapehmekaaPAllx10
import Derived.Test.YtolgcoapehmekaaFlip
namespace Go.Proofs.Ytolgcoapehmekaa.Pure
open Go.RowKit Go.Proofs.Ytolgcoapehmekaa.PAll Go.Proofs.YtolgcoapehmekaaW.PrintWords Go.Proofs.YtolgcoapehmekaaW.PrintLast Go.Proofs.YtolgcoapehmekaaW.PrintMore Go.Proofs.Ytolgcoapehmekaa.Base

theorem isData_eq' (l : List Int) : impl_isData.f l = some (decide (l.length ≤ 600)) := by
  unfold impl_isData.f
  rw [show decide ((l.length : Int) ≤ 600) = decide (l.length ≤ 600) from decide_eq_decide.2 (by omega)]
theorem within_eq' (a b c : Int) : impl_within.f a b c = some (decide (b ≤ a ∧ a ≤ c)) := by
  unfold impl_within.f
  by_cases h : b ≤ a
  · rw [if_pos h]; simp [h]
  · rw [if_neg h]; simp [h]
/-- A bit of data flipped: both answer this. -/
def flipI (l : List Int) (i : Int) : List Int × Bool := if l.length ≤ 600 ∧ 0 ≤ i ∧ i < 8 * (l.length : Int) then (Crc.flip l i.toNat, true) else ([], false)
theorem implFlip (l : List Int) (hb : Bytes l) (i : Int) : impl_FlipBit.f l i = some (flipI l i) := by
  unfold impl_FlipBit.f flipI
  rw [isData_eq', Option.bind_some]
  by_cases h : l.length ≤ 600
  · rw [if_pos (decide_eq_true h), within_eq', Option.bind_some, w64 (x := 8 * (l.length : Int)) (by omega) (by omega), w64 (by omega) (by omega)]
    by_cases h2 : 0 ≤ i ∧ i < 8 * (l.length : Int)
    · rw [if_pos (decide_eq_true (by omega)), if_pos ⟨h, h2⟩]
      obtain ⟨k, rfl⟩ := Int.eq_ofNat_of_zero_le h2.1
      unfold slices_Clone_byte_byte.f
      rw [if_pos (by omega), Option.bind_some, div8 k (by omega), mod8, if_pos (by omega), if_pos (by omega), if_pos (by omega), shr_mask _ (by omega), Int.toNat_natCast, Int.toNat_natCast, flip_val l hb k]
    · rw [if_neg (fun e => h2 ⟨(of_decide_eq_true e).1, by have := (of_decide_eq_true e).2; omega⟩), if_neg (fun h3 => h2 h3.2)]
  · rw [if_neg (by simpa using h), if_neg (fun h3 => h h3.1)]
theorem implFlip_nat (l : List Int) (hb : Bytes l) (hl : l.length ≤ 600) (k : Nat) (hk : k < 8 * l.length) : impl_FlipBit.f l (k : Int) = some (Crc.flip l k, true) := by
  rw [implFlip l hb]
  unfold flipI
  rw [if_pos ⟨hl, by omega, by omega⟩, Int.toNat_natCast]

end Go.Proofs.Ytolgcoapehmekaa.Pure
