/- The draws of the laws on bits, and what a flip of one bit does to parity and distance. -/
import Derived.Test.YtolgcoapehmekaaPAllx7
import Derived.Test.YtolgcoapehmekaaPAllx8
import Derived.Test.YtolgcoapehmekaaPAllx18
import Derived.Test.YtolgcoapehmekaaPAllx20
import Derived.Test.YtolgcoapehmekaaPAllx22
import Derived.Lib.Bytes
import Derived.Test.YtolgcoapehmekaaBitsP
import Derived.Test.YtolgcoapehmekaaFlipI
namespace Go.Proofs.Ytolgcoapehmekaa.Pure
open Go.RowKit Go.Proofs.Ytolgcoapehmekaa.PAll Go.Proofs.YtolgcoapehmekaaW.PrintWords Go.Proofs.YtolgcoapehmekaaW.PrintLast Go.Proofs.YtolgcoapehmekaaW.PrintMore Go.Proofs.Ytolgcoapehmekaa.Base

theorem specFlipBit (l : List Int) (hb : Bytes l) (i : Int) : spec_FlipBit.f l i = some (flipI l i) := by
  unfold spec_FlipBit.f flipI
  rw [specData, Option.bind_some]
  by_cases h : l.length ≤ 600
  · have hin : spec_l1In.f i 0 (8 * (l.length : Int) - 1) = some (decide (0 ≤ i ∧ i ≤ 8 * (l.length : Int) - 1)) := by
      unfold spec_l1In.f
      by_cases h0 : i ≥ 0
      · rw [if_pos h0]; simp [show 0 ≤ i from h0]
      · rw [if_neg h0]; simp; omega
    rw [if_pos (decide_eq_true h), w64 (x := 8 * (l.length : Int)) (by omega) (by omega), w64 (x := 8 * (l.length : Int) - 1) (by omega) (by omega), hin, Option.bind_some]
    by_cases h2 : 0 ≤ i ∧ i < 8 * (l.length : Int)
    · rw [if_pos (decide_eq_true (by omega)), if_pos ⟨h, h2⟩]
      obtain ⟨k, rfl⟩ := Int.eq_ofNat_of_zero_le h2.1
      rw [specFlip l hb (by omega) k (by omega), Option.bind_some, Int.toNat_natCast]
    · rw [if_neg (fun e => h2 ⟨(of_decide_eq_true e).1, by have := (of_decide_eq_true e).2; omega⟩), if_neg (fun h3 => h2 h3.2)]
  · rw [if_neg (by simpa using h), if_neg (fun h3 => h h3.1)]
theorem flipI_yes {l : List Int} {i : Int} (h : l.length ≤ 600 ∧ 0 ≤ i ∧ i < 8 * (l.length : Int)) : flipI l i = (Crc.flip l i.toNat, true) := if_pos h
theorem flipI_no {l : List Int} {i : Int} (h : ¬ (l.length ≤ 600 ∧ 0 ≤ i ∧ i < 8 * (l.length : Int))) : flipI l i = ([], false) := if_neg h
theorem flipI_len (l : List Int) (i : Int) : (flipI l i).1.length ≤ 600 := by
  by_cases h : l.length ≤ 600 ∧ 0 ≤ i ∧ i < 8 * (l.length : Int)
  · rw [flipI_yes h, Crc.flip_length]
    exact h.1
  · rw [flipI_no h]
    simp
theorem flip_rd (l : List Int) (k m : Nat) (hk : k / 8 < l.length) : (rd (Crc.flip l k) (m : Int)).toNat = if k / 8 = m then (rd l (m : Int)).toNat ^^^ Crc.mask (k % 8) else (rd l (m : Int)).toNat := by
  unfold Crc.flip
  rw [rd_nat, rd_nat, List.getD_eq_getElem?_getD, List.getElem?_set]
  by_cases h : k / 8 = m
  · rw [if_pos h, if_pos (by omega), if_pos h, h, Option.getD_some, Int.toNat_natCast]
  · rw [if_neg h, if_neg h, ← List.getD_eq_getElem?_getD]
theorem flip_flip (l : List Int) (hb : Bytes l) (k : Nat) (hk : k / 8 < l.length) : Crc.flip (Crc.flip l k) k = l := by
  have hx : 0 ≤ l[k / 8] := (hb _ (List.getElem_mem hk)).1
  have e : (Crc.flip l k).getD (k / 8) 0 = ((l[k / 8].toNat ^^^ Crc.mask (k % 8) : Nat) : Int) := by
    unfold Crc.flip
    rw [List.getD_eq_getElem?_getD, List.getElem?_set, if_pos rfl, if_pos hk, Option.getD_some, List.getD_eq_getElem?_getD, List.getElem?_eq_getElem hk, Option.getD_some]
  have e2 : Crc.flip (Crc.flip l k) k = (Crc.flip l k).set (k / 8) ((((Crc.flip l k).getD (k / 8) 0).toNat ^^^ Crc.mask (k % 8) : Nat) : Int) := rfl
  rw [e2, e, Int.toNat_natCast, Nat.xor_assoc, Nat.xor_self, Nat.xor_zero, Int.toNat_of_nonneg hx]
  unfold Crc.flip
  rw [List.set_set, List.set_getElem_self]
theorem pop8_flip : ∀ a, a < 256 → ∀ s, s < 8 → pop8 (a ^^^ Crc.mask s) % 2 = (pop8 a + 1) % 2 := by decide +kernel
theorem pop8_mask : ∀ s, s < 8 → pop8 (Crc.mask s) = 1 := by decide +kernel
theorem pop8_zero : pop8 0 = 0 := by decide
theorem popN_flip (l : List Int) (hb : Bytes l) (k : Nat) (hk : k / 8 < l.length) (m : Nat) : popN (Crc.flip l k) m % 2 = (popN l m + (if k / 8 < m then 1 else 0)) % 2 := by
  induction m with
  | zero => simp [popN]
  | succ m ih =>
    simp only [popN]
    rw [flip_rd l k m hk]
    by_cases h : k / 8 = m
    · have hx := hb.at_ (m : Int)
      have := pop8_flip (rd l (m : Int)).toNat (by omega) (k % 8) (by omega)
      rw [if_neg (by omega)] at ih
      rw [if_pos h, if_pos (by omega)]
      omega
    · rw [if_neg h]
      by_cases h2 : k / 8 < m
      · rw [if_pos h2] at ih
        rw [if_pos (by omega)]
        omega
      · rw [if_neg h2] at ih
        rw [if_neg (by omega)]
        omega
theorem popX_flip (l : List Int) (k : Nat) (hk : k / 8 < l.length) (m : Nat) : popX (Crc.flip l k) l m = if k / 8 < m then 1 else 0 := by
  induction m with
  | zero => simp [popX]
  | succ m ih =>
    simp only [popX]
    rw [flip_rd l k m hk, ih]
    by_cases h : k / 8 = m
    · rw [if_pos h, if_neg (by omega), if_pos (by omega), Nat.xor_comm (rd l (m : Int)).toNat, Nat.xor_assoc, Nat.xor_self, Nat.xor_zero, pop8_mask _ (by omega)]
      rfl
    · rw [if_neg h, Nat.xor_self, pop8_zero]
      by_cases h2 : k / 8 < m
      · rw [if_pos h2, if_pos (by omega)]
        rfl
      · rw [if_neg h2, if_neg (by omega)]
        rfl
theorem distI_comm (a b : List Int) : distI a b = distI b a := by
  by_cases h : a.length ≤ 600 ∧ a.length = b.length
  · rw [distI_bits h, distI_bits ⟨by omega, h.2.symm⟩, h.2, diffN_comm]
  · rw [distI_no h, distI_no (by omega)]
theorem byte_sum_tab : ∀ a, a < 256 → a = 128 * (a / 2 ^ (7 - 0) % 2) + 64 * (a / 2 ^ (7 - 1) % 2) + 32 * (a / 2 ^ (7 - 2) % 2) + 16 * (a / 2 ^ (7 - 3) % 2) + 8 * (a / 2 ^ (7 - 4) % 2) + 4 * (a / 2 ^ (7 - 5) % 2) + 2 * (a / 2 ^ (7 - 6) % 2) + a / 2 ^ (7 - 7) % 2 := by decide +kernel
theorem byte_sum (x : Int) (hx : 0 ≤ x ∧ x < 256) : x = 128 * bitI x 0 + 64 * bitI x 1 + 32 * bitI x 2 + 16 * bitI x 3 + 8 * bitI x 4 + 4 * bitI x 5 + 2 * bitI x 6 + bitI x 7 := by
  obtain ⟨a, rfl⟩ := Int.eq_ofNat_of_zero_le hx.1
  have h := byte_sum_tab a (by omega)
  unfold bitI
  rw [Int.toNat_natCast]
  exact_mod_cast h
theorem byte_bits (x y : Int) (hx : 0 ≤ x ∧ x < 256) (hy : 0 ≤ y ∧ y < 256) (h : ∀ t, t < 8 → bitI x t = bitI y t) : x = y := by
  rw [byte_sum x hx, byte_sum y hy, h 0 (by omega), h 1 (by omega), h 2 (by omega), h 3 (by omega), h 4 (by omega), h 5 (by omega), h 6 (by omega), h 7 (by omega)]
theorem distI_zero (a b : List Int) (ha : Bytes a) (hb : Bytes b) (h : distI a b = 0) : a = b := by
  by_cases hc : a.length ≤ 600 ∧ a.length = b.length
  · rw [distI_bits hc] at h
    have hz := diffN_zero _ _ _ h
    refine List.ext_getElem hc.2 (fun i h1 h2 => ?_)
    have e := byte_bits (rd a (i : Int)) (rd b (i : Int)) (ha.at_ _) (hb.at_ _) (fun t ht => by
      have := hz (8 * i + t) (by omega)
      rwa [bitsN_at a _ i t h1 ht, bitsN_at b _ i t h1 ht] at this)
    rwa [rd_get a i h1, rd_get b i h2] at e
  · rw [distI_no hc] at h
    omega
theorem distI_same (a : List Int) : distI a a = if a.length ≤ 600 then 0 else -1 := by
  by_cases h : a.length ≤ 600
  · rw [distI_bits ⟨h, rfl⟩, diffN_same, if_pos h]
  · rw [distI_no (fun e => h e.1), if_neg h]
theorem distI_tri (a b c : List Int) (h1 : ¬ distI a b < 0) (h2 : ¬ distI a c < 0) (h3 : ¬ distI c b < 0) : distI a b ≤ distI a c + distI c b := by
  have k1 : a.length ≤ 600 ∧ a.length = b.length := Decidable.byContradiction (fun e => h1 (by rw [distI_no e]; omega))
  have k2 : a.length ≤ 600 ∧ a.length = c.length := Decidable.byContradiction (fun e => h2 (by rw [distI_no e]; omega))
  have k3 : c.length ≤ 600 ∧ c.length = b.length := Decidable.byContradiction (fun e => h3 (by rw [distI_no e]; omega))
  rw [distI_bits k1, distI_bits k2, distI_bits k3, ← k2.2]
  exact diffN_tri _ _ _ _
theorem str_eq (a b : List Int) (ha : Bytes a) (hb : Bytes b) : (strOfNums a).toList = (strOfNums b).toList ↔ a = b := by
  constructor
  · intro h
    rw [Lib.strOfNums_toList, Lib.strOfNums_toList] at h
    have hd : a.map (fun n => UInt8.ofNat n.toNat) = b.map (fun n => UInt8.ofNat n.toNat) := h
    have hlen : a.length = b.length := by simpa using congrArg List.length hd
    refine List.ext_getElem hlen (fun i h1 h2 => ?_)
    have e := congrArg (fun l => l[i]?) hd
    simp only [List.getElem?_map, List.getElem?_eq_getElem h1, List.getElem?_eq_getElem h2, Option.map_some, Option.some.injEq] at e
    have e2 := congrArg UInt8.toNat e
    have x1 := ha _ (List.getElem_mem h1)
    have x2 := hb _ (List.getElem_mem h2)
    simp only [UInt8.toNat_ofNat'] at e2
    omega
  · rintro rfl
    rfl

/-! ### The draws -/
theorem drawFlip_ev (l : List Int) (hb : Bytes l) : ∃ b i, Bytes b ∧ b.length ≤ 601 ∧ Ev (fun k => spec_DrawFlipBit.f k l) (b, i) := by
  obtain ⟨s, hl, hs, ho⟩ := open_eq l
  obtain ⟨b, q, h1, h2, h3, h4, h5⟩ := draw_ev s 0 (hs hb) hl (by omega)
  obtain ⟨y, hy0, hy1, hy⟩ := pick_ev s q (8 * (b.length : Int) + 3) (hs hb) hl (by omega) (by omega)
  unfold spec_DrawFlipBit.f
  refine ⟨b, wrap64 (y - 1), h1, h2, Ev.bindc ho (Ev.bind h5 (Ev.bind (a := (y, q + 1)) ?_ (Ev.now _)))⟩
  show Ev (fun k => spec_l21Rd_pick.f k s q (wrap64 (wrap64 (8 * (b.length : Int)) + 3))) (y, q + 1)
  rw [w64 (x := 8 * (b.length : Int)) (by omega) (by omega), w64 (x := 8 * (b.length : Int) + 3) (by omega) (by omega)]
  exact hy
theorem bytes_end (b : List Int) (h : Bytes b) : Bytes (b ++ [0]) := by
  intro x hx
  rcases List.mem_append.1 hx with hx | hx
  · exact h x hx
  · simp at hx
    omega
theorem drawDist_ev (l : List Int) (hb : Bytes l) : ∃ a b, Bytes a ∧ Bytes b ∧ Ev (fun k => spec_DrawDistance.f k l) (a, b) := by
  obtain ⟨s, hl, hs, ho⟩ := open_eq l
  obtain ⟨a, q, a1, a2, a3, a4, a5⟩ := draw_ev s 0 (hs hb) hl (by omega)
  obtain ⟨c, q2, c1, c2, c3, c4, c5⟩ := some_ev s q (a.length : Int) (hs hb) hl (by omega) (by omega)
  have no : ∀ p, 0 ≤ p → p ≤ 100000 → ∃ b, Bytes b ∧ Ev (fun k => spec_DrawDistance.j0 k a c false s p) (a, b) := by
    intro p p0 p1
    obtain ⟨y, hy0, hy1, hy⟩ := pick_ev s p 12 (hs hb) hl (by omega) (by omega)
    by_cases hz : y = 0
    · refine ⟨c ++ [0], bytes_end c c1, Ev.succ ?_⟩
      simp only [spec_DrawDistance.j0]
      exact Ev.neg Bool.false_ne_true (Ev.bind hy (Ev.pos hz (Ev.pos (by omega) (Ev.now _))))
    · refine ⟨c, c1, Ev.succ ?_⟩
      simp only [spec_DrawDistance.j0]
      exact Ev.neg Bool.false_ne_true (Ev.bind hy (Ev.neg hz (Ev.now _)))
  unfold spec_DrawDistance.f
  by_cases hz : (a.length : Int) > 0
  · obtain ⟨y, hy0, hy1, hy⟩ := pick_ev s q2 2 (hs hb) hl (by omega) (by omega)
    by_cases hy2 : y = 0
    · obtain ⟨v, hv0, hv1, hv⟩ := pick_ev s (q2 + 1) (8 * (a.length : Int)) (hs hb) hl (by omega) (by omega)
      obtain ⟨u, hu0, hu1, hu⟩ := pick_ev s (q2 + 1 + 1) 12 (hs hb) hl (by omega) (by omega)
      obtain ⟨k, rfl⟩ := Int.eq_ofNat_of_zero_le hv0
      have hf := specFlip a a1 (by omega) k (by omega)
      have hfb := Crc.flip_bytes a k a1 (by omega)
      have hfl := Crc.flip_length a k
      have hb0 : (y == 0) = true := by simpa using hy2
      by_cases hu2 : u = 0
      · refine ⟨a, Crc.flip a k ++ [0], a1, bytes_end _ hfb, Ev.bindc ho (Ev.bind a5 (Ev.bind c5 (Ev.pos hz (Ev.bind hy ?_))))⟩
        simp only [hb0]
        refine Ev.succ ?_
        simp only [spec_DrawDistance.j0]
        rw [w64 (x := 8 * (a.length : Int)) (by omega) (by omega)]
        exact Ev.pos trivial (Ev.bind hv (Ev.bindc hf (Ev.bind hu (Ev.pos hu2 (Ev.pos (by omega) (Ev.now _))))))
      · refine ⟨a, Crc.flip a k, a1, hfb, Ev.bindc ho (Ev.bind a5 (Ev.bind c5 (Ev.pos hz (Ev.bind hy ?_))))⟩
        simp only [hb0]
        refine Ev.succ ?_
        simp only [spec_DrawDistance.j0]
        rw [w64 (x := 8 * (a.length : Int)) (by omega) (by omega)]
        exact Ev.pos trivial (Ev.bind hv (Ev.bindc hf (Ev.bind hu (Ev.neg hu2 (Ev.now _)))))
    · obtain ⟨b, hb1, hb2⟩ := no (q2 + 1) (by omega) (by omega)
      have hb0 : (y == 0) = false := by simpa using hy2
      refine ⟨a, b, a1, hb1, Ev.bindc ho (Ev.bind a5 (Ev.bind c5 (Ev.pos hz (Ev.bind hy ?_))))⟩
      simp only [hb0]
      exact hb2
  · obtain ⟨b, hb1, hb2⟩ := no q2 (by omega) (by omega)
    exact ⟨a, b, a1, hb1, Ev.bindc ho (Ev.bind a5 (Ev.bind c5 (Ev.neg hz hb2)))⟩

end Go.Proofs.Ytolgcoapehmekaa.Pure
