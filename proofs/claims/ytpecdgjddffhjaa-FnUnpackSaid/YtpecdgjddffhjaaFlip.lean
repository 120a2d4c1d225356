/- What the program's and the reference's flips of one bit of data answer. -/
import Derived.Test.YtpecdgjddffhjaaPAllx14
import Derived.Test.YtpecdgjddffhjaaLibB
import Derived.Test.YtpecdgjddffhjaaCrcMath
namespace Go.Proofs.Ytpecdgjddffhjaa.Pure
open Go.RowKit Go.Proofs.Ytpecdgjddffhjaa.PAll Go.Proofs.YtpecdgjddffhjaaW.PrintWords Go.Proofs.YtpecdgjddffhjaaW.PrintLast Go.Proofs.YtpecdgjddffhjaaW.PrintMore Go.Proofs.Ytpecdgjddffhjaa.Base

theorem shl_mask : ∀ i : Nat, i < 8 → shl .u8 1 ((7 : Int) - (i : Int)) = (Crc.mask i : Int) := by decide +kernel
theorem shr_mask : ∀ i : Nat, i < 8 → shr .u8 128 (i : Int) = (Crc.mask i : Int) := by decide +kernel
theorem flip_val (l : List Int) (hb : Bytes l) (k : Nat) : l.set (k / 8) (Go.bits .xor .u8 (rd l ((k / 8 : Nat) : Int)) (Crc.mask (k % 8) : Int)) = Crc.flip l k := by
  have h1 := hb.at_ ((k / 8 : Nat) : Int)
  have h2 := Crc.mask_lt (k % 8) (by omega)
  rw [u8_xor _ _ h1.1 h1.2 (by omega) (by omega), Int.toNat_natCast, rd_nat]
  rfl
theorem div8 (k : Nat) (hk : k ≤ 1000000000) : wrap64 (Int.tdiv (k : Int) 8) = ((k / 8 : Nat) : Int) := by
  rw [Int.tdiv_eq_ediv_of_nonneg (by omega), w64 (by omega) (by omega)]
  omega
theorem mod8 (k : Nat) : Int.tmod (k : Int) 8 = ((k % 8 : Nat) : Int) := by
  rw [Int.tmod_eq_emod_of_nonneg (by omega)]
  omega
theorem specFlip (l : List Int) (hb : Bytes l) (hl : l.length ≤ 1000000) (k : Nat) (hk : k < 8 * l.length) : spec_l1Flip.f l (k : Int) = some (Crc.flip l k) := by
  unfold spec_l1Flip.f
  rw [Option.bind_some, if_pos (by simp; omega), Option.bind_some, List.nil_append, div8 k (by omega), mod8, if_pos (by omega), if_pos (by omega), w64 (x := 7 - ((k % 8 : Nat) : Int)) (by omega) (by omega), if_pos (by omega), shl_mask _ (by omega), Int.toNat_natCast, flip_val l hb k]

end Go.Proofs.Ytpecdgjddffhjaa.Pure
