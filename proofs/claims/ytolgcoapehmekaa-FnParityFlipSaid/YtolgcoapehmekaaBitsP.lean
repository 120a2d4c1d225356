/- Parities and distances of data, counted bit by bit and byte by byte. -/
import Derived.Test.YtolgcoapehmekaaPAllx2
import Derived.Test.YtolgcoapehmekaaPAllx3
import Derived.Test.YtolgcoapehmekaaPAllx5
import Derived.Test.YtolgcoapehmekaaPAllx6
import Derived.Test.YtolgcoapehmekaaBits
namespace Go.Proofs.Ytolgcoapehmekaa.Pure
open Go.RowKit Go.Proofs.Ytolgcoapehmekaa.PAll Go.Proofs.YtolgcoapehmekaaW.PrintWords Go.Proofs.YtolgcoapehmekaaW.PrintLast Go.Proofs.YtolgcoapehmekaaW.PrintMore Go.Proofs.Ytolgcoapehmekaa.Base

theorem ones_eq (x : Int) (hx : 0 ≤ x ∧ x < 256) : bits_OnesCount8.f x = some (pop8 x.toNat : Int) := by
  unfold bits_OnesCount8.f
  rw [if_pos hx]
theorem pop8_le (n : Nat) : pop8 n ≤ 8 := by unfold pop8; omega
/-- The sum of the first numbers of a list. -/
def sumN (l : List Int) : Nat → Int
  | 0 => 0
  | m + 1 => sumN l m + rd l (m : Int)
/-- The set bits of the first bytes. -/
def popN (l : List Int) : Nat → Int
  | 0 => 0
  | m + 1 => popN l m + (pop8 (rd l (m : Int)).toNat : Int)
theorem popN_range (l : List Int) (m : Nat) : 0 ≤ popN l m ∧ popN l m ≤ 8 * m := by
  induction m with
  | zero => simp [popN]
  | succ m ih =>
    simp only [popN]
    have := pop8_le (rd l (m : Int)).toNat
    omega
theorem pop8_bits (x : Int) (_hx : 0 ≤ x ∧ x < 256) : (pop8 x.toNat : Int) = bitI x 0 + bitI x 1 + bitI x 2 + bitI x 3 + bitI x 4 + bitI x 5 + bitI x 6 + bitI x 7 := by
  unfold pop8 bitI
  simp only [Nat.sub_zero, Nat.reduceSub, Nat.reducePow]
  omega
theorem bitsN_at (l : List Int) (m i t : Nat) (hi : i < m) (ht : t < 8) : rd (bitsN l m) ((8 * i + t : Nat) : Int) = bitI (rd l (i : Int)) t := by
  rw [bitsN_rd l m _ (by omega), show (8 * i + t) / 8 = i by omega, show (8 * i + t) % 8 = t by omega]
theorem sum_pop (l : List Int) (hb : Bytes l) (m : Nat) : ∀ i, i ≤ m → sumN (bitsN l m) (8 * i) = popN l i := by
  intro i
  induction i with
  | zero => intro _; rfl
  | succ i ih =>
    intro hi
    have h := ih (by omega)
    have e : 8 * (i + 1) = 8 * i + 1 + 1 + 1 + 1 + 1 + 1 + 1 + 1 := by omega
    have at_ := bitsN_at l m i
    have hx := hb.at_ (i : Int)
    rw [e]
    simp only [sumN, popN]
    rw [h, pop8_bits _ hx, ← at_ 0 (by omega) (by omega), ← at_ 1 (by omega) (by omega), ← at_ 2 (by omega) (by omega), ← at_ 3 (by omega) (by omega), ← at_ 4 (by omega) (by omega), ← at_ 5 (by omega) (by omega), ← at_ 6 (by omega) (by omega), ← at_ 7 (by omega) (by omega)]
    simp only [Nat.add_zero]
    omega
theorem sumN_range (l : List Int) (h : ∀ i : Nat, 0 ≤ rd l (i : Int) ∧ rd l (i : Int) ≤ 1) (m : Nat) : 0 ≤ sumN l m ∧ sumN l m ≤ m := by
  induction m with
  | zero => simp [sumN]
  | succ m ih =>
    simp only [sumN]
    have := h m
    omega
theorem bitsN_small (l : List Int) (m i : Nat) : 0 ≤ rd (bitsN l m) (i : Int) ∧ rd (bitsN l m) (i : Int) ≤ 1 := by
  by_cases h : i < 8 * m
  · rw [bitsN_rd l m i h]
    exact bitI_range _ _
  · rw [rd_nat, List.getD_eq_getElem?_getD, List.getElem?_eq_none (by rw [bitsN_len]; omega)]
    simp
/-- The parity of data. -/
def parI (l : List Int) : Int := if l.length ≤ 600 then Int.tmod (popN l l.length) 2 else -1
theorem specPar_loop (B : List Int) (n : Nat) (hn : B.length = n) (h : ∀ i : Nat, 0 ≤ rd B (i : Int) ∧ rd B (i : Int) ≤ 1) (hl : n ≤ 100000) (d : Nat) : ∀ i : Nat, i + d = n → Ev (fun k => spec_ParityOf.l0 k (sumN B i) B (i : Int)) (Int.tmod (sumN B n) 2) := by
  induction d with
  | zero =>
    intro i hi
    obtain rfl : i = n := by omega
    refine Ev.succ ?_
    simp only [spec_ParityOf.l0]
    exact Ev.neg (by omega) (Ev.now _)
  | succ d ih =>
    intro i hi
    have h2 := ih (i + 1) (by omega)
    simp only [sumN] at h2
    have hs := sumN_range B h i
    have hx := h i
    refine Ev.succ ?_
    simp only [spec_ParityOf.l0]
    rw [succ_i i (by omega), w64 (x := sumN B i + rd B (i : Int)) (by omega) (by omega)]
    exact Ev.pos (by omega) (Ev.pos (by omega) h2)
theorem specPar (l : List Int) (hb : Bytes l) : Ev (fun k => spec_ParityOf.f k l) (parI l) := by
  unfold spec_ParityOf.f
  refine Ev.bindc (specData l) ?_
  by_cases h : l.length ≤ 600
  · have e : bitsI l = bitsN l l.length := if_pos h
    have e2 : parI l = Int.tmod (sumN (bitsN l l.length) (8 * l.length)) 2 := by
      rw [sum_pop l hb l.length l.length (by omega)]
      exact if_pos h
    rw [e2]
    refine Ev.pos (decide_eq_true h) (Ev.bind (specBits l hb) ?_)
    rw [e]
    exact specPar_loop _ (8 * l.length) (bitsN_len _ _) (bitsN_small l l.length) (by omega) (8 * l.length) 0 (by omega)
  · exact Ev.eq (Ev.neg (by simpa using h) (Ev.now _)) (if_neg h).symm
theorem implPar_loop (l : List Int) (hb : Bytes l) (hl : l.length ≤ 600) (d : Nat) : ∀ i : Nat, i + d = l.length → Ev (fun k => impl_ParityOf.l0 k (popN l i) l (l.length : Int) (i : Int)) (Int.tmod (popN l l.length) 2) := by
  induction d with
  | zero =>
    intro i hi
    obtain rfl : i = l.length := by omega
    refine Ev.succ ?_
    simp only [impl_ParityOf.l0]
    exact Ev.neg (by omega) (Ev.now _)
  | succ d ih =>
    intro i hi
    have h2 := ih (i + 1) (by omega)
    simp only [popN] at h2
    have hs := popN_range l i
    have hp := pop8_le (rd l (i : Int)).toNat
    refine Ev.succ ?_
    simp only [impl_ParityOf.l0]
    refine Ev.pos (by omega) (Ev.pos (by omega) (Ev.pos (by omega) (Ev.bindc (ones_eq _ (hb.at_ _)) ?_)))
    rw [succ_i i (by omega), w64 (x := popN l i + (pop8 (rd l (i : Int)).toNat : Int)) (by omega) (by omega)]
    exact h2
theorem implPar (l : List Int) (hb : Bytes l) : Ev (fun k => impl_ParityOf.f k l) (parI l) := by
  unfold impl_ParityOf.f
  refine Ev.bindc (implData l) ?_
  by_cases h : l.length ≤ 600
  · exact Ev.eq (Ev.pos (decide_eq_true h) (implPar_loop l hb h l.length 0 (by omega))) (if_pos h).symm
  · exact Ev.eq (Ev.neg (by simpa using h) (Ev.now _)) (if_neg h).symm

/-! ### The distance -/
/-- In how many of the first places two lists differ. -/
def diffN (A B : List Int) : Nat → Int
  | 0 => 0
  | m + 1 => diffN A B m + (if rd A (m : Int) = rd B (m : Int) then 0 else 1)
theorem diffN_range (A B : List Int) (m : Nat) : 0 ≤ diffN A B m ∧ diffN A B m ≤ m := by
  induction m with
  | zero => simp [diffN]
  | succ m ih =>
    simp only [diffN]
    split <;> omega
theorem diffN_comm (A B : List Int) (m : Nat) : diffN A B m = diffN B A m := by
  induction m with
  | zero => rfl
  | succ m ih =>
    simp only [diffN]
    rw [ih]
    by_cases h : rd A (m : Int) = rd B (m : Int)
    · rw [if_pos h, if_pos h.symm]
    · rw [if_neg h, if_neg (fun e => h e.symm)]
theorem diffN_tri (A B C : List Int) (m : Nat) : diffN A B m ≤ diffN A C m + diffN C B m := by
  induction m with
  | zero => simp [diffN]
  | succ m ih =>
    simp only [diffN]
    by_cases h1 : rd A (m : Int) = rd C (m : Int)
    · rw [if_pos h1, h1]
      omega
    · rw [if_neg h1]
      split <;> split <;> omega
theorem diffN_zero (A B : List Int) (m : Nat) (h : diffN A B m = 0) : ∀ i : Nat, i < m → rd A (i : Int) = rd B (i : Int) := by
  induction m with
  | zero => intro i hi; omega
  | succ m ih =>
    intro i hi
    simp only [diffN] at h
    have hr := diffN_range A B m
    by_cases e : rd A (m : Int) = rd B (m : Int)
    · rw [if_pos e] at h
      by_cases e2 : i = m
      · subst e2
        exact e
      · exact ih (by omega) i (by omega)
    · rw [if_neg e] at h
      omega
theorem diffN_same (A : List Int) (m : Nat) : diffN A A m = 0 := by
  induction m with
  | zero => rfl
  | succ m ih => simp [diffN, ih]
/-- The set bits of the bytes' differences. -/
def popX (a b : List Int) : Nat → Int
  | 0 => 0
  | m + 1 => popX a b m + (pop8 ((rd a (m : Int)).toNat ^^^ (rd b (m : Int)).toNat) : Int)
theorem popX_range (a b : List Int) (m : Nat) : 0 ≤ popX a b m ∧ popX a b m ≤ 8 * m := by
  induction m with
  | zero => simp [popX]
  | succ m ih =>
    simp only [popX]
    have := pop8_le ((rd a (m : Int)).toNat ^^^ (rd b (m : Int)).toNat)
    omega
theorem xor_bit (a b s : Nat) : ((a ^^^ b) / 2 ^ s % 2 : Nat) = if a / 2 ^ s % 2 = b / 2 ^ s % 2 then 0 else 1 := by
  rw [← Nat.toNat_testBit, ← Nat.toNat_testBit, ← Nat.toNat_testBit, Nat.testBit_xor]
  cases a.testBit s <;> cases b.testBit s <;> rfl
theorem pop8_eq (n : Nat) : pop8 n = n / 2 ^ 0 % 2 + n / 2 ^ 1 % 2 + n / 2 ^ 2 % 2 + n / 2 ^ 3 % 2 + n / 2 ^ 4 % 2 + n / 2 ^ 5 % 2 + n / 2 ^ 6 % 2 + n / 2 ^ 7 % 2 := by
  unfold pop8
  simp only [Nat.reducePow, Nat.div_one]
theorem bit_differ (x y : Int) (t : Nat) : (if bitI x t = bitI y t then (0 : Int) else 1) = (((x.toNat ^^^ y.toNat) / 2 ^ (7 - t) % 2 : Nat) : Int) := by
  rw [xor_bit]
  unfold bitI
  by_cases h : x.toNat / 2 ^ (7 - t) % 2 = y.toNat / 2 ^ (7 - t) % 2
  · rw [if_pos h, if_pos (by rw [h])]
    rfl
  · rw [if_neg h, if_neg (by omega)]
    rfl
theorem diff_pop (a b : List Int) (m : Nat) : ∀ i, i ≤ m → diffN (bitsN a m) (bitsN b m) (8 * i) = popX a b i := by
  intro i
  induction i with
  | zero => intro _; rfl
  | succ i ih =>
    intro hi
    have h := ih (by omega)
    have e : 8 * (i + 1) = 8 * i + 1 + 1 + 1 + 1 + 1 + 1 + 1 + 1 := by omega
    have st : ∀ t, t < 8 → (if rd (bitsN a m) ((8 * i + t : Nat) : Int) = rd (bitsN b m) ((8 * i + t : Nat) : Int) then (0 : Int) else 1) = ((((rd a (i : Int)).toNat ^^^ (rd b (i : Int)).toNat) / 2 ^ (7 - t) % 2 : Nat) : Int) := by
      intro t ht
      rw [bitsN_at a m i t (by omega) ht, bitsN_at b m i t (by omega) ht, bit_differ]
    have s0 := st 0 (by omega)
    have s1 := st 1 (by omega)
    have s2 := st 2 (by omega)
    have s3 := st 3 (by omega)
    have s4 := st 4 (by omega)
    have s5 := st 5 (by omega)
    have s6 := st 6 (by omega)
    have s7 := st 7 (by omega)
    rw [e]
    simp only [diffN, popX]
    rw [h, pop8_eq]
    simp only [Nat.add_assoc, Nat.add_zero, Nat.sub_zero, Nat.reduceSub] at s0 s1 s2 s3 s4 s5 s6 s7 ⊢
    rw [s0, s1, s2, s3, s4, s5, s6, s7]
    omega
def distI (a b : List Int) : Int := if a.length ≤ 600 ∧ a.length = b.length then popX a b a.length else -1

theorem distI_yes {a b : List Int} (h : a.length ≤ 600 ∧ a.length = b.length) : distI a b = popX a b a.length := if_pos h
theorem distI_no {a b : List Int} (h : ¬ (a.length ≤ 600 ∧ a.length = b.length)) : distI a b = -1 := if_neg h
theorem distI_bits {a b : List Int} (h : a.length ≤ 600 ∧ a.length = b.length) : distI a b = diffN (bitsN a a.length) (bitsN b a.length) (8 * a.length) := by
  rw [distI_yes h, diff_pop a b a.length a.length (by omega)]
theorem distI_range (a b : List Int) : -1 ≤ distI a b ∧ distI a b ≤ 4800 := by
  by_cases h : a.length ≤ 600 ∧ a.length = b.length
  · rw [distI_yes h]
    have := popX_range a b a.length
    omega
  · rw [distI_no h]
    omega
theorem specDist_loop (A B : List Int) (n : Nat) (hA : A.length = n) (hB : B.length = n) (hl : n ≤ 100000) (d : Nat) : ∀ i : Nat, i + d = n → Ev (fun k => spec_Distance.l0 k A B (diffN A B i) (i : Int)) (diffN A B n) := by
  induction d with
  | zero =>
    intro i hi
    obtain rfl : i = n := by omega
    refine Ev.succ ?_
    simp only [spec_Distance.l0]
    exact Ev.neg (by omega) (Ev.now _)
  | succ d ih =>
    intro i hi
    have h2 := ih (i + 1) (by omega)
    simp only [diffN] at h2
    have hs := diffN_range A B i
    refine Ev.succ ?_
    simp only [spec_Distance.l0]
    rw [succ_i i (by omega), w64 (x := diffN A B i + 1) (by omega) (by omega)]
    refine Ev.pos (by omega) (Ev.pos (by omega) (Ev.pos (by omega) ?_))
    by_cases e : rd A (i : Int) = rd B (i : Int)
    · rw [if_pos e, Int.add_zero] at h2
      exact Ev.pos e h2
    · rw [if_neg e] at h2
      exact Ev.neg e h2
theorem specDist (a b : List Int) (ha : Bytes a) (hb : Bytes b) : Ev (fun k => spec_Distance.f k a b) (distI a b) := by
  have no : ¬ (a.length ≤ 600 ∧ a.length = b.length) → Ev (fun k => spec_Distance.j0 k a b true) (distI a b) := by
    intro h
    refine Ev.succ ?_
    simp only [spec_Distance.j0]
    exact Ev.eq (Ev.pos trivial (Ev.now _)) (distI_no h).symm
  unfold spec_Distance.f
  refine Ev.bindc (specData a) ?_
  by_cases h : a.length ≤ 600
  · refine Ev.pos (decide_eq_true h) ?_
    by_cases e : a.length = b.length
    · have e1 : ((a.length : Int) != (b.length : Int)) = false := by rw [e]; simp
      have e2 : bitsI a = bitsN a a.length := if_pos h
      have e3 : bitsI b = bitsN b a.length := by rw [e]; exact if_pos (by omega)
      rw [e1, distI_bits ⟨h, e⟩]
      refine Ev.succ ?_
      simp only [spec_Distance.j0]
      refine Ev.neg Bool.false_ne_true (Ev.bind (specBits a ha) (Ev.bind (specBits b hb) ?_))
      rw [e2, e3]
      exact specDist_loop _ _ (8 * a.length) (bitsN_len _ _) (bitsN_len _ _) (by omega) (8 * a.length) 0 (by omega)
    · have e1 : ((a.length : Int) != (b.length : Int)) = true := by rw [bne_iff_ne]; omega
      rw [e1]
      exact no (fun x => e x.2)
  · exact Ev.neg (by simpa using h) (no (fun x => h x.1))
theorem u8_xor' (x y : Int) (hx : 0 ≤ x ∧ x < 256) (hy : 0 ≤ y ∧ y < 256) : Go.bits .xor .u8 x y = ((x.toNat ^^^ y.toNat : Nat) : Int) ∧ x.toNat ^^^ y.toNat < 256 := by
  have hk : x.toNat ^^^ y.toNat < 256 := Nat.xor_lt_two_pow (n := 8) (by omega) (by omega)
  exact ⟨u8_xor x y hx.1 hx.2 hy.1 hy.2, hk⟩
theorem implDist_loop (a b : List Int) (ha : Bytes a) (hb : Bytes b) (hl : a.length ≤ 600) (e : a.length = b.length) (d : Nat) : ∀ i : Nat, i + d = a.length → Ev (fun k => impl_Distance.l0 k b (popX a b i) a (a.length : Int) (i : Int)) (popX a b a.length) := by
  induction d with
  | zero =>
    intro i hi
    obtain rfl : i = a.length := by omega
    refine Ev.succ ?_
    simp only [impl_Distance.l0]
    exact Ev.neg (by omega) (Ev.now _)
  | succ d ih =>
    intro i hi
    have h2 := ih (i + 1) (by omega)
    simp only [popX] at h2
    have hs := popX_range a b i
    have hx := u8_xor' (rd a (i : Int)) (rd b (i : Int)) (ha.at_ _) (hb.at_ _)
    have hp := pop8_le ((rd a (i : Int)).toNat ^^^ (rd b (i : Int)).toNat)
    refine Ev.succ ?_
    simp only [impl_Distance.l0]
    rw [hx.1, succ_i i (by omega)]
    refine Ev.pos (by omega) (Ev.pos (by omega) (Ev.pos (by omega) (Ev.pos (by omega) (Ev.bindc (ones_eq _ ⟨by omega, by have := hx.2; omega⟩) ?_))))
    rw [Int.toNat_natCast, w64 (x := popX a b i + (pop8 ((rd a (i : Int)).toNat ^^^ (rd b (i : Int)).toNat) : Int)) (by omega) (by omega)]
    exact h2
theorem implDist (a b : List Int) (ha : Bytes a) (hb : Bytes b) : Ev (fun k => impl_Distance.f k a b) (distI a b) := by
  have no : ¬ (a.length ≤ 600 ∧ a.length = b.length) → Ev (fun k => impl_Distance.j0 k a b true) (distI a b) := by
    intro h
    refine Ev.succ ?_
    simp only [impl_Distance.j0]
    exact Ev.eq (Ev.pos trivial (Ev.now _)) (distI_no h).symm
  unfold impl_Distance.f
  refine Ev.bindc (implData a) ?_
  by_cases h : a.length ≤ 600
  · refine Ev.pos (decide_eq_true h) (Ev.bindc (implData b) ?_)
    by_cases hb2 : b.length ≤ 600
    · refine Ev.pos (decide_eq_true hb2) ?_
      by_cases e : a.length = b.length
      · have e1 : ((a.length : Int) != (b.length : Int)) = false := by rw [e]; simp
        rw [e1, distI_yes ⟨h, e⟩]
        refine Ev.succ ?_
        simp only [impl_Distance.j0]
        exact Ev.neg Bool.false_ne_true (implDist_loop a b ha hb h e a.length 0 (by omega))
      · have e1 : ((a.length : Int) != (b.length : Int)) = true := by rw [bne_iff_ne]; omega
        rw [e1]
        exact no (fun x => e x.2)
    · exact Ev.neg (by simpa using hb2) (no (fun x => hb2 (by omega)))
  · exact Ev.neg (by simpa using h) (no (fun x => h x.1))

end Go.Proofs.Ytolgcoapehmekaa.Pure
