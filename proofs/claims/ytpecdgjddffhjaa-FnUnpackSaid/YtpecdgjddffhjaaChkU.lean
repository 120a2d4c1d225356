/- What the reference's unpacking of a packet of a link answers; the draw of packets. -/
import Derived.Test.YtpecdgjddffhjaaPAllx5
import Derived.Test.YtpecdgjddffhjaaPAllx15
import Derived.Test.YtpecdgjddffhjaaChkP
namespace Go.Proofs.Ytpecdgjddffhjaa.Pure
open Go.RowKit Go.Proofs.Ytpecdgjddffhjaa.PAll Go.Proofs.YtpecdgjddffhjaaW.PrintWords Go.Proofs.YtpecdgjddffhjaaW.PrintLast Go.Proofs.Ytpecdgjddffhjaa.Base

theorem specUnpack (b : List Int) (hb : Bytes b) : Ev (fun k => spec_UnpackLink.f k b) (unpackI b) := by
  unfold spec_UnpackLink.f unpackI
  have hp := cutI_bytes b hb
  have hl := cutI_len b
  refine Ev.bind (specCut b hb) ?_
  generalize cutI b = p at hp hl
  by_cases h : p.2 = true
  · rw [if_pos h]
    have hr := hp.at_ 0
    have e1 : wrap64 (rd p.1 0) = rd p.1 0 := w64 (by omega) (by omega)
    have e2 : wrap64 (Int.tdiv (rd p.1 0) 16) = rd p.1 0 / 16 := by
      rw [Int.tdiv_eq_ediv_of_nonneg hr.1]
      exact w64 (by omega) (by omega)
    have e3 : Int.tmod (rd p.1 0) 16 = rd p.1 0 % 16 := Int.tmod_eq_emod_of_nonneg hr.1
    simp only [e1, e2, e3]
    by_cases h0 : 0 < p.1.length
    · refine Ev.pos ⟨h, h0⟩ (Ev.bindc (l1In_eq _ _ _) ?_)
      by_cases hk : 1 ≤ rd p.1 0 / 16 ∧ rd p.1 0 / 16 ≤ 2
      · by_cases h2 : rd p.1 0 / 16 = 2 ∧ 1 < p.1.length
        · rw [show openI p.1 = (0, 0, [], false) from if_neg (fun e => e.2.2 h2)]
          exact Ev.pos (.inr h2) (Ev.now _)
        · rw [show openI p.1 = (rd p.1 0 / 16, rd p.1 0 % 16, p.1.drop 1, true) from if_pos ⟨h0, hk, h2⟩]
          refine Ev.neg ?_ (Ev.pos (by rw [List.length_drop]; omega) (Ev.now _))
          rintro (e | e)
          · rw [decide_eq_true hk] at e
            cases e
          · exact h2 e
      · rw [show openI p.1 = (0, 0, [], false) from if_neg (fun e => hk e.2.1)]
        exact Ev.pos (.inl (decide_eq_false hk)) (Ev.now _)
    · rw [show openI p.1 = (0, 0, [], false) from if_neg (fun e => h0 e.1)]
      exact Ev.neg (fun e => h0 e.2) (Ev.now _)
  · rw [if_neg h]
    exact Ev.neg (fun e => h e.1) (Ev.now _)
theorem openI_len (p : List Int) (hl : p.length ≤ 600) : (openI p).2.2.1.length ≤ 600 := by
  unfold openI
  split
  · show (p.drop 1).length ≤ 600
    rw [List.length_drop]
    omega
  · simp
theorem unpackI_len (b : List Int) : (unpackI b).2.2.1.length ≤ 600 := by
  unfold unpackI
  split
  · exact openI_len _ (cutI_len b)
  · simp
theorem drawUnpack_ev (l : List Int) (hb : Bytes l) : ∃ b, Bytes b ∧ b.length ≤ 600 ∧ Ev (fun k => spec_DrawUnpackLink.f k l) b := by
  obtain ⟨s, hl, hs, ho⟩ := open_eq l
  obtain ⟨n, hn, hE⟩ := num_ev s 0 [1, 3, 0, 6] (hs hb) hl (by omega) (by simp) (by simp)
  have hn2 : 0 ≤ n ∧ n ≤ 6 := by simp at hn; omega
  obtain ⟨b, q, b1, b2, b3, b4, b5⟩ := some_ev s (0 + 1) n (hs hb) hl (by omega) (by omega)
  have fin : ∀ (c : List Int) (p : Int), Bytes c → c.length ≤ 6 → 0 ≤ p → p ≤ 100000 → ∃ r, Bytes r ∧ r.length ≤ 600 ∧ Ev (fun k => spec_DrawUnpackLink.j0 k c s p) r := by
    intro c p hc hcl p0 p1
    have e : addI c = (withCrc c, true) := by unfold addI; rw [if_pos (by omega)]
    have ha := specAdd c hc (by omega)
    rw [e] at ha
    have hw := withCrc_length c
    have hwb := withCrc_bytes c hc
    obtain ⟨x, hx0, hx1, hx⟩ := pick_ev s p 4 (hs hb) hl (by omega) (by omega)
    by_cases hz : x = 0
    · obtain ⟨y, hy0, hy1, hy⟩ := pick_ev s (p + 1) (8 * ((withCrc c).length : Int)) (hs hb) hl (by omega) (by omega)
      obtain ⟨k, rfl⟩ := Int.eq_ofNat_of_zero_le hy0
      have hf := specFlip (withCrc c) hwb (by omega) k (by omega)
      refine ⟨Crc.flip (withCrc c) k, Crc.flip_bytes _ k hwb (by omega), by rw [Crc.flip_length]; omega, Ev.succ ?_⟩
      simp only [spec_DrawUnpackLink.j0]
      refine Ev.bind ha (Ev.bind hx (Ev.pos hz (Ev.succ ?_)))
      simp only [spec_DrawUnpackLink.j1]
      rw [w64 (x := 8 * ((withCrc c).length : Int)) (by omega) (by omega)]
      exact Ev.pos (decide_eq_true (by omega)) (Ev.bind hy (Ev.bindc hf (Ev.now _)))
    · refine ⟨withCrc c, hwb, by omega, Ev.succ ?_⟩
      simp only [spec_DrawUnpackLink.j0]
      refine Ev.bind ha (Ev.bind hx (Ev.neg hz (Ev.succ ?_)))
      simp only [spec_DrawUnpackLink.j1]
      exact Ev.neg Bool.false_ne_true (Ev.now _)
  unfold spec_DrawUnpackLink.f
  by_cases h0 : (b.length : Int) > 0
  · obtain ⟨z, _, hz⟩ := num_ev s q [16, 32, 17, 47, 48, 15, 31] (hs hb) hl (by omega) (by simp) (by simp)
    have hset : Bytes (b.set (0 : Int).toNat (z % 256)) := fun x hx => by
      rcases List.mem_or_eq_of_mem_set hx with hx | rfl
      · exact b1 x hx
      · omega
    obtain ⟨r, r1, r2, r3⟩ := fin (b.set (0 : Int).toNat (z % 256)) (q + 1) hset (by rw [List.length_set]; omega) (by omega) (by omega)
    exact ⟨r, r1, r2, Ev.bindc ho (Ev.bind hE (Ev.bind b5 (Ev.pos h0 (Ev.bind hz (Ev.pos (by omega) r3)))))⟩
  · obtain ⟨r, r1, r2, r3⟩ := fin b q b1 (by omega) (by omega) (by omega)
    exact ⟨r, r1, r2, Ev.bindc ho (Ev.bind hE (Ev.bind b5 (Ev.neg h0 r3)))⟩

end Go.Proofs.Ytpecdgjddffhjaa.Pure
