/- What the program's and the reference's functions on bits answer that make bytes of them, and that they turn back what makes bits of bytes. -/
import Derived.Test.YtolgcoapehmekaaPAllx7
import Derived.Test.YtolgcoapehmekaaPAllx21
import Derived.Test.YtolgcoapehmekaaPAllx22
import Derived.Test.YtolgcoapehmekaaPAllx26
import Derived.Test.YtolgcoapehmekaaPAllx28
import Derived.Test.YtolgcoapehmekaaBits
import Derived.Test.YtolgcoapehmekaaHBytesOf
namespace Go.Proofs.Ytolgcoapehmekaa.Pure
open Go.RowKit Go.Proofs.Ytolgcoapehmekaa.PAll Go.Proofs.YtolgcoapehmekaaW.PrintWords Go.Proofs.YtolgcoapehmekaaW.PrintLast Go.Proofs.YtolgcoapehmekaaW.PrintMore Go.Proofs.Ytolgcoapehmekaa.Base

theorem bitNum_some (l : List Int) (j i : Nat) (hi : i ≤ 8) (h : ∀ t, t < 8 * j + i → 0 ≤ rd l (t : Int) ∧ rd l (t : Int) ≤ 1) : 0 ≤ bitNum l j i ∧ bitNum l j i ≤ 255 := by
  have hr : 0 ≤ bitNum l j i ∧ bitNum l j i < 2 ^ i := by
    clear hi
    induction i with
    | zero => simp [bitNum]
    | succ i ih =>
      have h1 := ih (fun t ht => h t (by omega))
      have h2 := h (8 * j + i) (by omega)
      simp only [bitNum, Int.pow_succ]
      omega
  have : (2 : Int) ^ i ≤ 2 ^ 8 := by
    have : (2 : Nat) ^ i ≤ 2 ^ 8 := Nat.pow_le_pow_right (by decide) hi
    exact_mod_cast this
  have e : (2 : Int) ^ 8 = 256 := by decide
  omega
theorem bytesOf_yes' {l : List Int} (h : l.length % 8 = 0 ∧ l.length ≤ 4800 ∧ l.all isBitB = true) : bytesOf l = ((List.range (l.length / 8)).map (byteAt l), true) := if_pos h
theorem bytesOf_no' {l : List Int} (h : ¬ (l.length % 8 = 0 ∧ l.length ≤ 4800 ∧ l.all isBitB = true)) : bytesOf l = ([], false) := if_neg h
theorem all_bits (l : List Int) (h : ∀ t : Nat, t < l.length → 0 ≤ rd l (t : Int) ∧ rd l (t : Int) ≤ 1) : l.all isBitB = true := by
  rw [List.all_eq_true]
  intro x hx
  obtain ⟨t, ht, rfl⟩ := List.getElem_of_mem hx
  have := h t ht
  rw [rd_get l t ht] at this
  unfold isBitB
  exact decide_eq_true (by omega)
theorem in_bit (x : Int) : spec_l1In.f x 0 1 = some (decide (0 ≤ x ∧ x ≤ 1)) := by
  unfold spec_l1In.f
  by_cases h0 : x ≥ 0
  · rw [if_pos h0]; simp [show 0 ≤ x from h0]
  · rw [if_neg h0]; simp; omega
theorem specBytes_in (l : List Int) (N : Nat) (hN : l.length = 8 * N) (hl : l.length ≤ 4800) (j : Nat) (hj : j < N)
    (hr : (∀ t : Nat, t < 8 * (j + 1) → 0 ≤ rd l (t : Int) ∧ rd l (t : Int) ≤ 1) → Ev (fun k => spec_BytesOf.l0 k l ((List.range (j + 1)).map (byteAt l)) ((8 * (j + 1) : Nat) : Int)) (bytesOf l)) (d : Nat) :
    ∀ i : Nat, i + d = 8 → (∀ t : Nat, t < 8 * j + i → 0 ≤ rd l (t : Int) ∧ rd l (t : Int) ≤ 1) → Ev (fun k => spec_BytesOf.l1 k l ((List.range j).map (byteAt l)) ((8 * j : Nat) : Int) (bitNum l j i) (i : Int)) (bytesOf l) := by
  induction d with
  | zero =>
    intro i hi hs
    obtain rfl : i = 8 := by omega
    have hx := bitNum_some l j 8 (by omega) hs
    have h2 := hr (fun t ht => hs t (by omega))
    rw [List.range_succ, List.map_append] at h2
    have e1 : bitNum l j 8 % 256 = byteAt l j := by
      show bitNum l j 8 % 256 = bitNum l j 8
      omega
    have e2 : wrap64 (((8 * j : Nat) : Int) + 8) = ((8 * (j + 1) : Nat) : Int) := by
      rw [w64 (by omega) (by omega)]
      omega
    refine Ev.succ ?_
    simp only [spec_BytesOf.l1]
    rw [e1, e2]
    exact Ev.neg (by omega) (Ev.pos (by simp; omega) h2)
  | succ d ih =>
    intro i hi hs
    have hx := bitNum_some l j i (by omega) hs
    have e1 : wrap64 (((8 * j : Nat) : Int) + (i : Int)) = ((8 * j + i : Nat) : Int) := by
      rw [w64 (by omega) (by omega)]
      omega
    refine Ev.succ ?_
    simp only [spec_BytesOf.l1]
    rw [e1, succ_i i (by omega)]
    refine Ev.pos (by omega) (Ev.pos (by omega) (Ev.pos (by omega) (Ev.bindc (in_bit _) ?_)))
    by_cases hb : 0 ≤ rd l ((8 * j + i : Nat) : Int) ∧ rd l ((8 * j + i : Nat) : Int) ≤ 1
    · have h2 := ih (i + 1) (by omega) (fun t ht => by
        by_cases e : t = 8 * j + i
        · rw [e]
          exact hb
        · exact hs t (by omega))
      have e2 : wrap64 (wrap64 (2 * bitNum l j i) + rd l ((8 * j + i : Nat) : Int)) = bitNum l j (i + 1) := by
        rw [w64 (x := 2 * bitNum l j i) (by omega) (by omega), w64 (by omega) (by omega)]
        rfl
      rw [e2]
      exact Ev.pos (decide_eq_true hb) h2
    · have hno : ¬ (l.length % 8 = 0 ∧ l.length ≤ 4800 ∧ l.all isBitB = true) := fun h => hb (bits_at l h.2.2 _)
      rw [bytesOf_no' hno]
      exact Ev.neg (by simpa using hb) (Ev.now _)
theorem specBytes_loop (l : List Int) (N : Nat) (hN : l.length = 8 * N) (hl : l.length ≤ 4800) (d : Nat) : ∀ j : Nat, j + d = N → (∀ t : Nat, t < 8 * j → 0 ≤ rd l (t : Int) ∧ rd l (t : Int) ≤ 1) →
    Ev (fun k => spec_BytesOf.l0 k l ((List.range j).map (byteAt l)) ((8 * j : Nat) : Int)) (bytesOf l) := by
  induction d with
  | zero =>
    intro j hj hs
    obtain rfl : j = N := by omega
    rw [bytesOf_yes' ⟨by omega, hl, all_bits l (fun t ht => hs t (by omega))⟩, show l.length / 8 = j by omega]
    refine Ev.succ ?_
    simp only [spec_BytesOf.l0]
    exact Ev.neg (by omega) (Ev.now _)
  | succ d ih =>
    intro j hj hs
    have h2 := specBytes_in l N hN hl j (by omega) (fun hs2 => ih (j + 1) (by omega) hs2) 8 0 (by omega) hs
    refine Ev.succ ?_
    simp only [spec_BytesOf.l0]
    exact Ev.pos (by omega) h2
theorem specBytes (l : List Int) : Ev (fun k => spec_BytesOf.f k l) (bytesOf l) := by
  unfold spec_BytesOf.f
  refine Ev.bindc (a := []) rfl ?_
  by_cases h8 : l.length % 8 = 0
  · refine Ev.pos (by omega) (Ev.succ ?_)
    simp only [spec_BytesOf.j0]
    by_cases hl : l.length ≤ 4800
    · rw [show decide ((l.length : Int) > 4800) = false from decide_eq_false (by omega)]
      exact Ev.neg Bool.false_ne_true (specBytes_loop l (l.length / 8) (by omega) hl (l.length / 8) 0 (by omega) (fun t ht => by omega))
    · rw [show decide ((l.length : Int) > 4800) = true from decide_eq_true (by omega), bytesOf_no' (fun h => hl h.2.1)]
      exact Ev.pos rfl (Ev.now _)
  · refine Ev.neg (by omega) (Ev.succ ?_)
    simp only [spec_BytesOf.j0]
    rw [bytesOf_no' (fun h => h8 h.1)]
    exact Ev.pos trivial (Ev.now _)
theorem implBytes (l : List Int) : impl_BytesOf.f l = some (bytesOf l) := rfl
theorem bytesOf_len (l : List Int) : (bytesOf l).1.length ≤ 600 := by
  by_cases h : l.length % 8 = 0 ∧ l.length ≤ 4800 ∧ l.all isBitB = true
  · rw [bytesOf_yes' h]
    simp
    omega
  · rw [bytesOf_no' h]
    simp
theorem bitNum8 (l : List Int) (j : Nat) : bitNum l j 8 = 128 * rd l ((8 * j + 0 : Nat) : Int) + 64 * rd l ((8 * j + 1 : Nat) : Int) + 32 * rd l ((8 * j + 2 : Nat) : Int) + 16 * rd l ((8 * j + 3 : Nat) : Int) + 8 * rd l ((8 * j + 4 : Nat) : Int) + 4 * rd l ((8 * j + 5 : Nat) : Int) + 2 * rd l ((8 * j + 6 : Nat) : Int) + rd l ((8 * j + 7 : Nat) : Int) := by
  simp only [bitNum]
  omega
theorem bitI_byteAt (l : List Int) (h : l.all isBitB = true) (j t : Nat) (ht : t < 8) : bitI (byteAt l j) t = rd l ((8 * j + t : Nat) : Int) := by
  have h0 := bits_at l h ((8 * j + 0 : Nat) : Int)
  have h1 := bits_at l h ((8 * j + 1 : Nat) : Int)
  have h2 := bits_at l h ((8 * j + 2 : Nat) : Int)
  have h3 := bits_at l h ((8 * j + 3 : Nat) : Int)
  have h4 := bits_at l h ((8 * j + 4 : Nat) : Int)
  have h5 := bits_at l h ((8 * j + 5 : Nat) : Int)
  have h6 := bits_at l h ((8 * j + 6 : Nat) : Int)
  have h7 := bits_at l h ((8 * j + 7 : Nat) : Int)
  have hn := bitNum8 l j
  have hd : bitI (byteAt l j) t = (bitNum l j 8).toNat / 2 ^ (7 - t) % 2 := by
    unfold bitI byteAt
    exact_mod_cast rfl
  rw [hd, hn]
  have ht' : t = 0 ∨ t = 1 ∨ t = 2 ∨ t = 3 ∨ t = 4 ∨ t = 5 ∨ t = 6 ∨ t = 7 := by omega
  clear hn hd h
  rcases ht' with rfl | rfl | rfl | rfl | rfl | rfl | rfl | rfl
  all_goals
    generalize rd l ((8 * j + 0 : Nat) : Int) = b0 at *
    generalize rd l ((8 * j + 1 : Nat) : Int) = b1 at *
    generalize rd l ((8 * j + 2 : Nat) : Int) = b2 at *
    generalize rd l ((8 * j + 3 : Nat) : Int) = b3 at *
    generalize rd l ((8 * j + 4 : Nat) : Int) = b4 at *
    generalize rd l ((8 * j + 5 : Nat) : Int) = b5 at *
    generalize rd l ((8 * j + 6 : Nat) : Int) = b6 at *
    generalize rd l ((8 * j + 7 : Nat) : Int) = b7 at *
    simp only [Nat.reduceSub, Int.reducePow]
    omega
theorem byteAt_byte (l : List Int) (h : l.all isBitB = true) (j : Nat) : 0 ≤ byteAt l j ∧ byteAt l j < 256 := by
  have := bitNum_small l h j 8 (by omega)
  show 0 ≤ bitNum l j 8 ∧ bitNum l j 8 < 256
  omega
theorem bytesOf_bytes (l : List Int) : Bytes (bytesOf l).1 := by
  by_cases h : l.length % 8 = 0 ∧ l.length ≤ 4800 ∧ l.all isBitB = true
  · rw [bytesOf_yes' h]
    intro x hx
    obtain ⟨j, _, rfl⟩ := List.mem_map.1 hx
    exact byteAt_byte l h.2.2 j
  · rw [bytesOf_no' h]
    intro x hx
    cases hx
/-- The bits of the bytes of bits are these. -/
theorem bits_of_bytes (l : List Int) (h : l.length % 8 = 0 ∧ l.length ≤ 4800 ∧ l.all isBitB = true) : bitsI (bytesOf l).1 = l := by
  rw [bytesOf_yes' h]
  unfold bitsI
  simp only [List.length_map, List.length_range]
  rw [if_pos (by omega)]
  refine List.ext_getElem? (fun k => ?_)
  by_cases hk : k < l.length
  · rw [bitsN_get _ _ k (by omega), rd_nat, List.getD_eq_getElem?_getD, List.getElem?_map, List.getElem?_range (by omega), Option.map_some, Option.getD_some, bitI_byteAt l h.2.2 _ _ (by omega), show 8 * (k / 8) + k % 8 = k by omega, rd_get l k hk, List.getElem?_eq_getElem hk]
  · rw [List.getElem?_eq_none (by rw [bitsN_len]; omega), List.getElem?_eq_none (by omega)]
theorem bitsN_isBit (l : List Int) (m : Nat) : (bitsN l m).all isBitB = true := all_bits _ (fun t _ => bitsN_small l m t)
/-- The bytes of the bits of data are the data. -/
theorem bytes_of_bits (l : List Int) (hb : Bytes l) (hl : l.length ≤ 600) : bytesOf (bitsN l l.length) = (l, true) := by
  rw [bytesOf_yes' ⟨by rw [bitsN_len]; omega, by rw [bitsN_len]; omega, bitsN_isBit l _⟩]
  congr 1
  rw [bitsN_len, show 8 * l.length / 8 = l.length by omega]
  refine List.ext_getElem (by simp) (fun j h1 h2 => ?_)
  rw [List.getElem_map, List.getElem_range]
  show bitNum (bitsN l l.length) j 8 = l[j]
  have hx := hb _ (List.getElem_mem h2)
  rw [bitNum8, bitsN_at l _ j 0 h2 (by omega), bitsN_at l _ j 1 h2 (by omega), bitsN_at l _ j 2 h2 (by omega), bitsN_at l _ j 3 h2 (by omega), bitsN_at l _ j 4 h2 (by omega), bitsN_at l _ j 5 h2 (by omega), bitsN_at l _ j 6 h2 (by omega), bitsN_at l _ j 7 h2 (by omega), rd_get l j h2]
  exact (byte_sum _ hx).symm

/-! ### The draws -/
theorem drawBits_loop (s : List Int) (n : Nat) (hs : Bytes s) (hl : s.length ≤ 2000) (hn : n ≤ 64) (d : Nat) : ∀ (i : Nat) (x4 : List Int) (p : Int), i + d = n → x4.length = i → 0 ≤ p → p ≤ 10000 + 2 * i →
    ∃ b, b.length = n ∧ Ev (fun k => spec_DrawBytesOf.l0 k x4 (n : Int) (i : Int) s p) b := by
  induction d with
  | zero =>
    intro i x4 p h1 h2 h3 h4
    obtain rfl : i = n := by omega
    have fin : ∀ q, 0 ≤ q → q ≤ 20000 → ∃ b, b.length = i ∧ Ev (fun k => spec_DrawBytesOf.j1 k x4 (i : Int) true s q) b ∨ i = 0 := by
      intro q q0 q1
      rcases Nat.eq_zero_or_pos i with h | h
      · exact ⟨[], .inr h⟩
      · obtain ⟨y, hy0, hy1, hy⟩ := pick_ev s q (i : Int) hs hl (by omega) (by omega)
        obtain ⟨z, _, hz⟩ := num_ev s (q + 1) [2, -1] hs hl (by omega) (by simp) (by simp)
        refine ⟨x4.set y.toNat z, .inl ⟨by rw [List.length_set, h2], Ev.succ ?_⟩⟩
        simp only [spec_DrawBytesOf.j1]
        exact Ev.pos trivial (Ev.bind hy (Ev.bind hz (Ev.pos hy0 (Ev.pos (by omega) (Ev.now _)))))
    have fin0 : ∀ q, Ev (fun k => spec_DrawBytesOf.j1 k x4 (i : Int) false s q) x4 := by
      intro q
      refine Ev.succ ?_
      simp only [spec_DrawBytesOf.j1]
      exact Ev.neg Bool.false_ne_true (Ev.now _)
    rcases Nat.eq_zero_or_pos i with h | h
    · refine ⟨x4, h2, Ev.succ ?_⟩
      simp only [spec_DrawBytesOf.l0]
      exact Ev.neg (by omega) (Ev.neg (by omega) (fin0 p))
    · obtain ⟨u, hu0, hu1, hu⟩ := pick_ev s p 10 hs hl (by omega) (by omega)
      by_cases hz : u = 0
      · obtain ⟨b, hb | hb⟩ := fin (p + 1) (by omega) (by omega)
        · refine ⟨b, hb.1, Ev.succ ?_⟩
          simp only [spec_DrawBytesOf.l0]
          refine Ev.neg (by omega) (Ev.pos (by omega) (Ev.bind hu ?_))
          rw [show ((u == 0) : Bool) = true by simpa using hz]
          exact hb.2
        · omega
      · refine ⟨x4, h2, Ev.succ ?_⟩
        simp only [spec_DrawBytesOf.l0]
        refine Ev.neg (by omega) (Ev.pos (by omega) (Ev.bind hu ?_))
        rw [show ((u == 0) : Bool) = false by simpa using hz]
        exact fin0 _
  | succ d ih =>
    intro i x4 p h1 h2 h3 h4
    obtain ⟨u, hu0, hu1, hu⟩ := pick_ev s p 2 hs hl (by omega) (by omega)
    obtain ⟨b, hb, hE⟩ := ih (i + 1) (x4 ++ [u]) (p + 1) (by omega) (by simp [h2]) (by omega) (by omega)
    refine ⟨b, hb, Ev.succ ?_⟩
    simp only [spec_DrawBytesOf.l0]
    rw [succ_i i (by omega)]
    exact Ev.pos (by omega) (Ev.bind hu (Ev.pos (by omega) hE))
theorem drawBytesOf_ev (l : List Int) (hb : Bytes l) : ∃ b : List Int, b.length ≤ 64 ∧ Ev (fun k => spec_DrawBytesOf.f k l) b := by
  obtain ⟨s, hl, hs, ho⟩ := open_eq l
  obtain ⟨n, hn, hE⟩ := num_ev s 0 [8, 16, 0, 24, 64, 7, 9] (hs hb) hl (by omega) (by simp) (by simp)
  have hn2 : 0 ≤ n ∧ n ≤ 64 := by simp at hn; omega
  obtain ⟨m, rfl⟩ := Int.eq_ofNat_of_zero_le hn2.1
  obtain ⟨b, h1, h2⟩ := drawBits_loop s m (hs hb) hl (by omega) m 0 [] (0 + 1) (by omega) rfl (by omega) (by omega)
  refine ⟨b, by omega, ?_⟩
  unfold spec_DrawBytesOf.f
  exact Ev.bindc ho (Ev.bind hE h2)
theorem drawBitsOf_ev (l : List Int) (hb : Bytes l) : ∃ b, Bytes b ∧ b.length ≤ 601 ∧ Ev (fun k => spec_DrawBitsOf.f k l) b := by
  obtain ⟨s, hl, hs, ho⟩ := open_eq l
  obtain ⟨b, q, h1, h2, h3, h4, h5⟩ := draw_ev s 0 (hs hb) hl (by omega)
  unfold spec_DrawBitsOf.f
  exact ⟨b, h1, h2, Ev.bindc ho (Ev.bind h5 (Ev.now _))⟩

end Go.Proofs.Ytolgcoapehmekaa.Pure
