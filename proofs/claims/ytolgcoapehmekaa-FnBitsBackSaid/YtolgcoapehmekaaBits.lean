/- What the program's and the reference's functions on the bits of data answer, as plain functions of lists. -/
import Derived.Test.YtolgcoapehmekaaPAllx1
import Derived.Test.YtolgcoapehmekaaPAllx2
import Derived.Test.YtolgcoapehmekaaPAllx12
import Derived.Test.YtolgcoapehmekaaLibI
namespace Go.Proofs.Ytolgcoapehmekaa.Pure
open Go.RowKit Go.Proofs.Ytolgcoapehmekaa.PAll Go.Proofs.YtolgcoapehmekaaW.PrintWords Go.Proofs.YtolgcoapehmekaaW.PrintLast Go.Proofs.YtolgcoapehmekaaW.PrintMore Go.Proofs.Ytolgcoapehmekaa.Base

/-- The bit of the number j of a byte; the first is the highest. -/
def bitI (x : Int) (j : Nat) : Int := ((x.toNat / 2 ^ (7 - j) % 2 : Nat) : Int)
theorem bitI_range (x : Int) (j : Nat) : 0 ≤ bitI x j ∧ bitI x j ≤ 1 := by unfold bitI; omega
theorem specBit_tab : ∀ a, a < 256 → ∀ j, j < 8 → Int.tmod (shr .i64 (wrap64 ((a : Nat) : Int)) (wrap64 (7 - ((j : Nat) : Int)))) 2 = bitI (a : Int) j := by decide +kernel
theorem implBit_tab : ∀ a, a < 256 → ∀ j, j < 8 → Go.bits .and .i64 (shr .i64 (wrap64 ((a : Nat) : Int)) (7 - ((j : Nat) : Int))) 1 = bitI (a : Int) j := by decide +kernel
theorem specBit (x : Int) (hx : 0 ≤ x ∧ x < 256) (j : Nat) (hj : j < 8) : spec_l1Bit.f x (j : Int) = some (bitI x j) := by
  obtain ⟨a, rfl⟩ := Int.eq_ofNat_of_zero_le hx.1
  unfold spec_l1Bit.f
  rw [if_pos (by rw [w64 (by omega) (by omega)]; omega), specBit_tab a (by omega) j hj]
theorem implBit (x : Int) (hx : 0 ≤ x ∧ x < 256) (j : Nat) (hj : j < 8) : Go.bits .and .i64 (shr .i64 (wrap64 x) (7 - (j : Int))) 1 = bitI x j := by
  obtain ⟨a, rfl⟩ := Int.eq_ofNat_of_zero_le hx.1
  exact implBit_tab a (by omega) j hj
def byteBits (x : Int) (n : Nat) : List Int := (List.range n).map fun j => bitI x j
theorem byteBits_succ (x : Int) (n : Nat) : byteBits x (n + 1) = byteBits x n ++ [bitI x n] := by
  unfold byteBits
  rw [List.range_succ, List.map_append]
  rfl
theorem byteBits_len (x : Int) (n : Nat) : (byteBits x n).length = n := by simp [byteBits]
/-- The bits of the first m bytes. -/
def bitsN (l : List Int) : Nat → List Int
  | 0 => []
  | m + 1 => bitsN l m ++ byteBits (rd l (m : Int)) 8
theorem bitsN_len (l : List Int) (m : Nat) : (bitsN l m).length = 8 * m := by
  induction m with
  | zero => rfl
  | succ m ih =>
    simp only [bitsN, List.length_append, byteBits_len, ih]
    omega
theorem bitsN_get (l : List Int) (m k : Nat) (hk : k < 8 * m) : (bitsN l m)[k]? = some (bitI (rd l ((k / 8 : Nat) : Int)) (k % 8)) := by
  induction m with
  | zero => omega
  | succ m ih =>
    simp only [bitsN]
    by_cases h : k < 8 * m
    · rw [List.getElem?_append_left (by rw [bitsN_len]; exact h), ih h]
    · have e : k / 8 = m := by omega
      have e2 : k - 8 * m = k % 8 := by omega
      rw [List.getElem?_append_right (by rw [bitsN_len]; omega), bitsN_len, e2, e]
      unfold byteBits
      rw [List.getElem?_map, List.getElem?_range (by omega)]
      rfl
theorem bitsN_rd (l : List Int) (m k : Nat) (hk : k < 8 * m) : rd (bitsN l m) (k : Int) = bitI (rd l ((k / 8 : Nat) : Int)) (k % 8) := by
  rw [rd_nat, List.getD_eq_getElem?_getD, bitsN_get l m k hk]
  rfl
def bitsI (l : List Int) : List Int := if l.length ≤ 600 then bitsN l l.length else []
theorem bitsI_len (l : List Int) : (bitsI l).length ≤ 4800 := by
  unfold bitsI
  split
  · rw [bitsN_len]
    omega
  · simp
theorem specData (l : List Int) : spec_l1Data.f l = some (decide (l.length ≤ 600)) := by
  unfold spec_l1Data.f
  rw [show decide ((l.length : Int) ≤ 600) = decide (l.length ≤ 600) from decide_eq_decide.2 (by omega)]
theorem implData (l : List Int) : impl_isData.f l = some (decide (l.length ≤ 600)) := by
  unfold impl_isData.f
  rw [show decide ((l.length : Int) ≤ 600) = decide (l.length ≤ 600) from decide_eq_decide.2 (by omega)]
theorem specBits_in (l : List Int) (hb : Bytes l) (hl : l.length ≤ 600) (i : Nat) (hi : i < l.length) (r : List Int) (hr : Ev (fun k => spec_BitsOf.l0 k l (bitsN l (i + 1)) ((i + 1 : Nat) : Int)) r) (d : Nat) : ∀ j : Nat, j + d = 8 → Ev (fun k => spec_BitsOf.l1 k l (bitsN l i ++ byteBits (rd l (i : Int)) j) (i : Int) (j : Int)) r := by
  induction d with
  | zero =>
    intro j hj
    obtain rfl : j = 8 := by omega
    refine Ev.succ ?_
    simp only [spec_BitsOf.l1]
    rw [succ_i i (by omega)]
    exact Ev.neg (by omega) hr
  | succ d ih =>
    intro j hj
    have h2 := ih (j + 1) (by omega)
    rw [byteBits_succ, ← List.append_assoc] at h2
    have hk : (bitsN l i ++ byteBits (rd l (i : Int)) j).length < 17592186044416 := by rw [List.length_append, bitsN_len, byteBits_len]; omega
    refine Ev.succ ?_
    simp only [spec_BitsOf.l1]
    rw [succ_i j (by omega)]
    exact Ev.pos (by omega) (Ev.pos (by omega) (Ev.pos (by omega) (Ev.bindc (specBit _ (hb.at_ _) j (by omega)) (Ev.pos hk h2))))
theorem specBits_loop (l : List Int) (hb : Bytes l) (hl : l.length ≤ 600) (d : Nat) : ∀ i : Nat, i + d = l.length → Ev (fun k => spec_BitsOf.l0 k l (bitsN l i) (i : Int)) (bitsN l l.length) := by
  induction d with
  | zero =>
    intro i hi
    obtain rfl : i = l.length := by omega
    refine Ev.succ ?_
    simp only [spec_BitsOf.l0]
    refine Ev.neg (by omega) (Ev.succ ?_)
    simp only [spec_BitsOf.j1]
    exact Ev.neg Bool.false_ne_true (Ev.now _)
  | succ d ih =>
    intro i hi
    have h2 := specBits_in l hb hl i (by omega) _ (ih (i + 1) (by omega)) 8 0 (by omega)
    have e : bitsN l i ++ byteBits (rd l (i : Int)) 0 = bitsN l i := List.append_nil _
    rw [e] at h2
    refine Ev.succ ?_
    simp only [spec_BitsOf.l0]
    refine Ev.pos (by omega) (Ev.bindc (specData l) (Ev.succ ?_))
    simp only [spec_BitsOf.j1]
    exact Ev.pos (decide_eq_true hl) h2
theorem specBits (l : List Int) (hb : Bytes l) : Ev (fun k => spec_BitsOf.f k l) (bitsI l) := by
  unfold spec_BitsOf.f
  by_cases h : l.length ≤ 600
  · exact Ev.eq (specBits_loop l hb h l.length 0 (by omega)) (if_pos h).symm
  · refine Ev.eq (r := []) (Ev.succ ?_) (if_neg h).symm
    simp only [spec_BitsOf.l0]
    refine Ev.pos (by omega) (Ev.bindc (specData l) (Ev.succ ?_))
    simp only [spec_BitsOf.j1]
    exact Ev.neg (by simpa using h) (Ev.now _)
theorem implBits_in (l : List Int) (hb : Bytes l) (hl : l.length ≤ 600) (i : Nat) (hi : i < l.length) (r : List Int) (hr : Ev (fun k => impl_BitsOf.l0 k (bitsN l (i + 1)) l (l.length : Int) ((i + 1 : Nat) : Int)) r) (d : Nat) : ∀ j : Nat, j + d = 8 → Ev (fun k => impl_BitsOf.l1 k (bitsN l i ++ byteBits (rd l (i : Int)) j) (rd l (i : Int)) (7 - (j : Int)) l (l.length : Int) (i : Int)) r := by
  induction d with
  | zero =>
    intro j hj
    obtain rfl : j = 8 := by omega
    refine Ev.succ ?_
    simp only [impl_BitsOf.l1]
    rw [succ_i i (by omega)]
    exact Ev.neg (by omega) hr
  | succ d ih =>
    intro j hj
    have h2 := ih (j + 1) (by omega)
    rw [byteBits_succ, ← List.append_assoc] at h2
    have hk : (bitsN l i ++ byteBits (rd l (i : Int)) j).length < 17592186044416 := by rw [List.length_append, bitsN_len, byteBits_len]; omega
    have e : wrap64 ((7 : Int) - (j : Int) - 1) = 7 - ((j + 1 : Nat) : Int) := by rw [w64 (by omega) (by omega)]; omega
    refine Ev.succ ?_
    simp only [impl_BitsOf.l1]
    rw [e, implBit _ (hb.at_ _) j (by omega)]
    exact Ev.pos (by omega) (Ev.pos (by omega) (Ev.pos hk h2))
theorem implBits_loop (l : List Int) (hb : Bytes l) (hl : l.length ≤ 600) (d : Nat) : ∀ i : Nat, i + d = l.length → Ev (fun k => impl_BitsOf.l0 k (bitsN l i) l (l.length : Int) (i : Int)) (bitsN l l.length) := by
  induction d with
  | zero =>
    intro i hi
    obtain rfl : i = l.length := by omega
    refine Ev.succ ?_
    simp only [impl_BitsOf.l0]
    exact Ev.neg (by omega) (Ev.now _)
  | succ d ih =>
    intro i hi
    have h2 := implBits_in l hb hl i (by omega) _ (ih (i + 1) (by omega)) 8 0 (by omega)
    have e : bitsN l i ++ byteBits (rd l (i : Int)) 0 = bitsN l i := List.append_nil _
    rw [e] at h2
    refine Ev.succ ?_
    simp only [impl_BitsOf.l0]
    exact Ev.pos (by omega) (Ev.pos (by omega) (Ev.pos (by omega) h2))
theorem implBits (l : List Int) (hb : Bytes l) : Ev (fun k => impl_BitsOf.f k l) (bitsI l) := by
  unfold impl_BitsOf.f
  refine Ev.bindc (implData l) ?_
  by_cases h : l.length ≤ 600
  · exact Ev.eq (Ev.pos (decide_eq_true h) (implBits_loop l hb h l.length 0 (by omega))) (if_pos h).symm
  · exact Ev.eq (Ev.neg (by simpa using h) (Ev.now _)) (if_neg h).symm

theorem bitsN_at (l : List Int) (m i t : Nat) (hi : i < m) (ht : t < 8) : rd (bitsN l m) ((8 * i + t : Nat) : Int) = bitI (rd l (i : Int)) t := by
  rw [bitsN_rd l m _ (by omega), show (8 * i + t) / 8 = i by omega, show (8 * i + t) % 8 = t by omega]
theorem bitsN_small (l : List Int) (m i : Nat) : 0 ≤ rd (bitsN l m) (i : Int) ∧ rd (bitsN l m) (i : Int) ≤ 1 := by
  by_cases h : i < 8 * m
  · rw [bitsN_rd l m i h]
    exact bitI_range _ _
  · rw [rd_nat, List.getD_eq_getElem?_getD, List.getElem?_eq_none (by rw [bitsN_len]; omega)]
    simp
theorem byte_sum_tab : ∀ a, a < 256 → a = 128 * (a / 2 ^ (7 - 0) % 2) + 64 * (a / 2 ^ (7 - 1) % 2) + 32 * (a / 2 ^ (7 - 2) % 2) + 16 * (a / 2 ^ (7 - 3) % 2) + 8 * (a / 2 ^ (7 - 4) % 2) + 4 * (a / 2 ^ (7 - 5) % 2) + 2 * (a / 2 ^ (7 - 6) % 2) + a / 2 ^ (7 - 7) % 2 := by decide +kernel
theorem byte_sum (x : Int) (hx : 0 ≤ x ∧ x < 256) : x = 128 * bitI x 0 + 64 * bitI x 1 + 32 * bitI x 2 + 16 * bitI x 3 + 8 * bitI x 4 + 4 * bitI x 5 + 2 * bitI x 6 + bitI x 7 := by
  obtain ⟨a, rfl⟩ := Int.eq_ofNat_of_zero_le hx.1
  have h := byte_sum_tab a (by omega)
  unfold bitI
  rw [Int.toNat_natCast]
  exact_mod_cast h

end Go.Proofs.Ytolgcoapehmekaa.Pure
