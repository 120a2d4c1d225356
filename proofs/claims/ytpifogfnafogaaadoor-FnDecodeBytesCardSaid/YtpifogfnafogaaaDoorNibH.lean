/- The pure side of FnDecodeBytes: the draw, and how far what is decoded is from its code. -/
import Derived.Test.YtpifogfnafogaaaDoorPAllx11
import Derived.Test.YtpifogfnafogaaaDoorPAllx12
import Derived.Test.YtpifogfnafogaaaDoorNibG
import Derived.Test.YtpifogfnafogaaaDoorNibF
namespace Go.Proofs.YtpifogfnafogaaaDoor.Pure
open Go.RowKit Go.Proofs.YtpifogfnafogaaaDoor.PAll Go.Proofs.YtpifogfnafogaaaDoorW.PrintWords Go.Proofs.YtpifogfnafogaaaDoorW.PrintLast Go.Proofs.YtpifogfnafogaaaDoorW.PrintMore Go.Proofs.YtpifogfnafogaaaDoor.Base
set_option maxRecDepth 100000

theorem ones_eq (x : Int) (hx : 0 ≤ x ∧ x < 256) : bits_OnesCount8.f x = some (pop8 x.toNat : Int) := by
  unfold bits_OnesCount8.f
  rw [if_pos hx]
theorem pop8_le (n : Nat) : pop8 n ≤ 8 := by unfold pop8; omega
def popX (a b : List Int) : Nat → Int
  | 0 => 0
  | m + 1 => popX a b m + (pop8 ((rd a (m : Int)).toNat ^^^ (rd b (m : Int)).toNat) : Int)
theorem popX_range (a b : List Int) (m : Nat) : 0 ≤ popX a b m ∧ popX a b m ≤ 8 * m := by
  induction m with
  | zero => simp [popX]
  | succ m ih =>
    simp only [popX]
    have := pop8_le ((rd a (m : Int)).toNat ^^^ (rd b (m : Int)).toNat)
    omega
def distI (a b : List Int) : Int := if a.length ≤ 600 ∧ a.length = b.length then popX a b a.length else -1

theorem distI_yes {a b : List Int} (h : a.length ≤ 600 ∧ a.length = b.length) : distI a b = popX a b a.length := if_pos h
theorem distI_no {a b : List Int} (h : ¬ (a.length ≤ 600 ∧ a.length = b.length)) : distI a b = -1 := if_neg h
theorem u8_xor' (x y : Int) (hx : 0 ≤ x ∧ x < 256) (hy : 0 ≤ y ∧ y < 256) : Go.bits .xor .u8 x y = ((x.toNat ^^^ y.toNat : Nat) : Int) ∧ x.toNat ^^^ y.toNat < 256 := by
  have hk : x.toNat ^^^ y.toNat < 256 := Nat.xor_lt_two_pow (n := 8) (by omega) (by omega)
  exact ⟨u8_xor x y hx.1 hx.2 hy.1 hy.2, hk⟩
theorem implDist_loop (a b : List Int) (ha : Bytes a) (hb : Bytes b) (hl : a.length ≤ 600) (e : a.length = b.length) (d : Nat) : ∀ i : Nat, i + d = a.length → Ev (fun k => impl_Distance.l0 k b (popX a b i) a (a.length : Int) (i : Int)) (popX a b a.length) := by
  induction d with
  | zero =>
    intro i hi
    obtain rfl : i = a.length := by omega
    refine Ev.succ ?_
    simp only [impl_Distance.l0]
    exact Ev.neg (by omega) (Ev.now _)
  | succ d ih =>
    intro i hi
    have h2 := ih (i + 1) (by omega)
    simp only [popX] at h2
    have hs := popX_range a b i
    have hx := u8_xor' (rd a (i : Int)) (rd b (i : Int)) (ha.at_ _) (hb.at_ _)
    have hp := pop8_le ((rd a (i : Int)).toNat ^^^ (rd b (i : Int)).toNat)
    refine Ev.succ ?_
    simp only [impl_Distance.l0]
    rw [hx.1, succ_i i (by omega)]
    refine Ev.pos (by omega) (Ev.pos (by omega) (Ev.pos (by omega) (Ev.pos (by omega) (Ev.bindc (ones_eq _ ⟨by omega, by have := hx.2; omega⟩) ?_))))
    rw [Int.toNat_natCast, w64 (x := popX a b i + (pop8 ((rd a (i : Int)).toNat ^^^ (rd b (i : Int)).toNat) : Int)) (by omega) (by omega)]
    exact h2
theorem implDist (a b : List Int) (ha : Bytes a) (hb : Bytes b) : Ev (fun k => impl_Distance.f k a b) (distI a b) := by
  have no : ¬ (a.length ≤ 600 ∧ a.length = b.length) → Ev (fun k => impl_Distance.j0 k a b true) (distI a b) := by
    intro h
    refine Ev.succ ?_
    simp only [impl_Distance.j0]
    exact Ev.eq (Ev.pos trivial (Ev.now _)) (distI_no h).symm
  unfold impl_Distance.f
  refine Ev.bindc (implData a) ?_
  by_cases h : a.length ≤ 600
  · refine Ev.pos (decide_eq_true h) (Ev.bindc (implData b) ?_)
    by_cases hb2 : b.length ≤ 600
    · refine Ev.pos (decide_eq_true hb2) ?_
      by_cases e : a.length = b.length
      · have e1 : ((a.length : Int) != (b.length : Int)) = false := by rw [e]; simp
        rw [e1, distI_yes ⟨h, e⟩]
        refine Ev.succ ?_
        simp only [impl_Distance.j0]
        exact Ev.neg Bool.false_ne_true (implDist_loop a b ha hb h e a.length 0 (by omega))
      · have e1 : ((a.length : Int) != (b.length : Int)) = true := by rw [bne_iff_ne]; omega
        rw [e1]
        exact no (fun x => e x.2)
    · exact Ev.neg (by simpa using hb2) (no (fun x => hb2 (by omega)))
  · exact Ev.neg (by simpa using h) (no (fun x => h x.1))


theorem shl_tab7 : ∀ s : Fin 7, shl .u8 1 (((s.1 : Nat) : Int)) = 2 ^ s.1 := by decide +kernel
theorem pow_tab : ∀ s : Fin 7, (0 : Int) ≤ 2 ^ s.1 ∧ (2 : Int) ^ s.1 < 256 := by decide +kernel
theorem rdH_bytes (l : List Int) (h : ∀ i : Nat, i < l.length → 0 ≤ rd l (i : Int) ∧ rd l (i : Int) < 256) : Bytes l := by
  intro x hx
  obtain ⟨i, hi, rfl⟩ := List.getElem_of_mem hx
  rw [← rd_get l i hi]
  exact h i hi
theorem encB_bytes (b : List Int) (hb : Bytes b) : Bytes (encB b) := by
  unfold encB
  split
  · refine rdH_bytes _ fun i hi => ?_
    rw [encL_len] at hi
    obtain ⟨u, v, eu, ev⟩ := half_fin (hb.at_ ((i / 2 : Nat) : Int))
    obtain ⟨g0, g1⟩ := encL_get b b.length (i / 2) (by omega)
    have a0 := enc_range u
    have a1 := enc_range v
    by_cases e : i % 2 = 0
    · have e' : rd (encL b b.length) (i : Int) = encN ((u.1 : Nat) : Int) := by rw [show i = 2 * (i / 2) by omega, g0, eu]
      rw [e']
      omega
    · have e' : rd (encL b b.length) (i : Int) = encN ((v.1 : Nat) : Int) := by rw [show i = 2 * (i / 2) + 1 by omega, g1, ev]
      rw [e']
      omega
  · intro x hx
    cases hx
theorem bytes_set (x : List Int) (i : Nat) (v : Int) (hx : Bytes x) (hv : 0 ≤ v ∧ v < 256) : Bytes (x.set i v) := by
  intro y hy
  rcases List.mem_or_eq_of_mem_set hy with h | h
  · exact hx y h
  · subst h; exact hv
theorem draw_loop (s : List Int) (hs : Bytes s) (hl : s.length ≤ 2000) (d : Nat) : ∀ (i : Nat) (x : List Int) (p : Int), i + d = x.length → Bytes x → x.length ≤ 1202 → 0 ≤ p → p + 2 * d ≤ 900000000 →
    ∃ r, Bytes r ∧ Ev (fun k => spec_DrawDecodeBytes.l0 k x (i : Int) s p) r := by
  induction d with
  | zero =>
    intro i x p hi hx hxl hp0 hp1
    obtain ⟨y, hy0, hy1, hy⟩ := pick_ev s p 12 hs hl (by omega) (by omega)
    by_cases h0 : y = 0
    · obtain ⟨z, hz0, hz1, hz⟩ := pick_ev s (p + 1) 256 hs hl (by omega) (by omega)
      refine ⟨x ++ [z % 256], ?_, ?_⟩
      · intro u hu
        rcases List.mem_append.1 hu with h | h
        · exact hx u h
        · simp only [List.mem_singleton] at h
          omega
      · refine Ev.succ ?_
        simp only [spec_DrawDecodeBytes.l0]
        exact Ev.neg (by omega) (Ev.bind hy (Ev.pos h0 (Ev.bind hz (Ev.pos (by omega) (Ev.now _)))))
    · by_cases h1 : y = 1
      · by_cases h2 : (x.length : Int) > 0
        · obtain ⟨z, hz0, hz1, hz⟩ := pick_ev s (p + 1) (x.length : Int) hs hl (by omega) (by omega)
          refine ⟨x.set z.toNat 128, bytes_set x _ _ hx (by omega), ?_⟩
          refine Ev.succ ?_
          simp only [spec_DrawDecodeBytes.l0]
          exact Ev.neg (by omega) (Ev.bind hy (Ev.neg h0 (Ev.pos h1 (Ev.pos h2 (Ev.bind hz (Ev.pos hz0 (Ev.pos hz1 (Ev.now _))))))))
        · refine ⟨x, hx, ?_⟩
          refine Ev.succ ?_
          simp only [spec_DrawDecodeBytes.l0]
          exact Ev.neg (by omega) (Ev.bind hy (Ev.neg h0 (Ev.pos h1 (Ev.neg h2 (Ev.now _)))))
      · refine ⟨x, hx, ?_⟩
        refine Ev.succ ?_
        simp only [spec_DrawDecodeBytes.l0]
        exact Ev.neg (by omega) (Ev.bind hy (Ev.neg h0 (Ev.neg h1 (Ev.now _))))
  | succ d ih =>
    intro i x p hi hx hxl hp0 hp1
    obtain ⟨y, hy0, hy1, hy⟩ := pick_ev s p 3 hs hl (by omega) (by omega)
    by_cases h0 : y = 0
    · obtain ⟨z, hz0, hz1, hz⟩ := pick_ev s (p + 1) 7 hs hl (by omega) (by omega)
      have e3 : shl .u8 1 z = 2 ^ z.toNat := by
        have := shl_tab7 ⟨z.toNat, by omega⟩
        simp only at this
        rw [show ((z.toNat : Nat) : Int) = z by omega] at this
        exact this
      have e4 : (0 : Int) ≤ 2 ^ z.toNat ∧ (2 : Int) ^ z.toNat < 256 := by
        have := pow_tab ⟨z.toNat, by omega⟩
        exact this
      have hv := u8_xor' (rd x (i : Int)) (2 ^ z.toNat) (hx.at_ _) e4
      obtain ⟨r, hr, he⟩ := ih (i + 1) (x.set i (Go.bits .xor .u8 (rd x (i : Int)) (2 ^ z.toNat))) (p + 1 + 1) (by rw [List.length_set]; omega) (bytes_set x _ _ hx (by rw [hv.1]; have := hv.2; omega)) (by rw [List.length_set]; omega) (by omega) (by omega)
      refine ⟨r, hr, ?_⟩
      refine Ev.succ ?_
      simp only [spec_DrawDecodeBytes.l0]
      refine Ev.pos (by omega) (Ev.bind hy (Ev.pos h0 (Ev.pos (by omega) (Ev.bind hz (Ev.pos hz0 ?_)))))
      simp only
      rw [e3, succ_i i (by omega), Int.toNat_natCast]
      exact he
    · obtain ⟨r, hr, he⟩ := ih (i + 1) x (p + 1) (by omega) hx hxl (by omega) (by omega)
      refine ⟨r, hr, ?_⟩
      refine Ev.succ ?_
      simp only [spec_DrawDecodeBytes.l0]
      refine Ev.pos (by omega) (Ev.bind hy (Ev.neg h0 ?_))
      simp only
      rw [succ_i i (by omega)]
      exact he
theorem drawX (l : List Int) (hl : Bytes l) : ∃ b, Bytes b ∧ Ev (fun k => spec_DrawDecodeBytes.f k l) b := by
  obtain ⟨s, hs, hb, ho⟩ := open_eq l
  obtain ⟨b, q, h1, h2, h3, h4, h5⟩ := draw_ev s 0 (hb hl) hs (by omega)
  have hc := specEncB b h1
  have hlen := encB_len b
  obtain ⟨r, hr, he⟩ := draw_loop s (hb hl) hs (encB b).length 0 (encB b) q (by omega) (encB_bytes b h1) (by omega) (by omega) (by omega)
  refine ⟨r, hr, ?_⟩
  unfold spec_DrawDecodeBytes.f
  exact Ev.bindc ho (Ev.bind h5 (Ev.bind hc he))
theorem near_tab : ∀ m : Fin 128, (pop8 ((encN (decN ((m.1 : Nat) : Int)).1).toNat ^^^ ((m.1 : Nat) : Int).toNat) : Int) = cut1 (decN ((m.1 : Nat) : Int)).2 := by decide +kernel
theorem near (y : Int) (h : 0 ≤ y ∧ y ≤ 127) : (pop8 ((encN (decN y).1).toNat ^^^ y.toNat) : Int) = cut1 (decN y).2 := by
  obtain ⟨m, rfl⟩ := fin7_of h
  exact near_tab m
theorem dl_rd (b : List Int) (N j : Nat) (hj : j < N) : rd (dl b N) (j : Int) = decAt b j := by
  rw [rd_nat, List.getD_eq_getElem?_getD]
  simp [dl, hj]
theorem pop_ts (b : List Int) (N : Nat) (hlow : ∀ i, 0 ≤ rd b i ∧ rd b i ≤ 127) (j : Nat) (hj : j ≤ N) : popX (encL (dl b N) N) b (2 * j) = ts b j := by
  induction j with
  | zero => rfl
  | succ j ih =>
    rw [show 2 * (j + 1) = 2 * j + 1 + 1 by omega]
    simp only [popX]
    rw [ih (by omega), ts_succ]
    obtain ⟨g0, g1⟩ := encL_get (dl b N) N j (by omega)
    rw [g0, g1, dl_rd b N j (by omega)]
    have s0 := dec_ok _ (hlow ((2 * j : Nat) : Int))
    have s1 := dec_ok _ (hlow ((2 * j + 1 : Nat) : Int))
    have d0 : decAt b j / 16 = (decN (rd b ((2 * j : Nat) : Int))).1 := by unfold decAt; omega
    have d1 : decAt b j % 16 = (decN (rd b ((2 * j + 1 : Nat) : Int))).1 := by unfold decAt; omega
    rw [d0, d1, near _ (hlow _), near _ (hlow _)]
    unfold trnAt
    omega
theorem decB_bytes (b : List Int) (hb : Bytes b) : Bytes (decB b).1 := by
  by_cases hc : b.length % 2 = 0 ∧ b.length ≤ 1200 ∧ b.any lowB = false
  · have e : decB b = (dl b (b.length / 2), ts b (b.length / 2)) := if_pos hc
    have hlow := low_at b (fun x hx => (hb x hx).1) hc.2.2
    rw [e]
    intro x hx
    obtain ⟨j, hj, rfl⟩ := List.mem_map.1 hx
    have s0 := dec_ok _ (hlow ((2 * j : Nat) : Int))
    have s1 := dec_ok _ (hlow ((2 * j + 1 : Nat) : Int))
    unfold decAt
    omega
  · have e : decB b = ([], -1) := if_neg hc
    rw [e]
    intro x hx
    cases hx
theorem far_same (b : List Int) (hb : Bytes b) (h : ¬ (decB b).2 < 0) (h6 : b.length ≤ 600) : distI (encB (decB b).1) b = (decB b).2 := by
  by_cases hc : b.length % 2 = 0 ∧ b.length ≤ 1200 ∧ b.any lowB = false
  · have e : decB b = (dl b (b.length / 2), ts b (b.length / 2)) := if_pos hc
    have e2 : encB (dl b (b.length / 2)) = encL (dl b (b.length / 2)) (b.length / 2) := by
      unfold encB
      rw [dl_len, if_pos (by omega)]
    have hlow := low_at b (fun x hx => (hb x hx).1) hc.2.2
    rw [e]
    simp only
    rw [e2]
    rw [distI_yes ⟨by rw [encL_len]; omega, by rw [encL_len]; omega⟩, encL_len]
    exact pop_ts b (b.length / 2) hlow (b.length / 2) (Nat.le_refl _)
  · have e : decB b = ([], -1) := if_neg hc
    rw [e] at h
    exact absurd (by decide) h
end Go.Proofs.YtpifogfnafogaaaDoor.Pure
