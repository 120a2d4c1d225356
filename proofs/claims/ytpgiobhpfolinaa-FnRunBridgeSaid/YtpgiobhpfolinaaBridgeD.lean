/- The draws of bridge tables and hops, and small facts of the lists that the bridge functions answer. -/
import Derived.Test.YtpgiobhpfolinaaPAllx6
import Derived.Test.YtpgiobhpfolinaaPAllx8
import Derived.Test.YtpgiobhpfolinaaBridge
namespace Go.Proofs.Ytpgiobhpfolinaa.Pure
open Go.RowKit Go.Proofs.Ytpgiobhpfolinaa.PAll Go.Proofs.YtpgiobhpfolinaaW.PrintWords Go.Proofs.YtpgiobhpfolinaaW.PrintLast Go.Proofs.YtpgiobhpfolinaaW.PrintMore Go.Proofs.Ytpgiobhpfolinaa.Base

theorem rd_set_self (l : List Int) (i : Int) (v : Int) (h0 : 0 ≤ i) (h1 : i < (l.length : Int)) : rd (l.set i.toNat v) i = v := by
  obtain ⟨a, rfl⟩ := Int.eq_ofNat_of_zero_le h0
  rw [Int.toNat_natCast, rd_get _ a (by rw [List.length_set]; omega), List.getElem_set_self]
theorem rd_set_ne (l : List Int) (i j : Int) (v : Int) (h0 : 0 ≤ i) (h1 : 0 ≤ j) (h : i ≠ j) : rd (l.set i.toNat v) j = rd l j := by
  obtain ⟨a, rfl⟩ := Int.eq_ofNat_of_zero_le h0
  obtain ⟨b, rfl⟩ := Int.eq_ofNat_of_zero_le h1
  rw [Int.toNat_natCast, rd_nat, rd_nat, List.getD_eq_getElem?_getD, List.getD_eq_getElem?_getD, List.getElem?_set_ne (by omega)]

/-! ### The draws -/
theorem specFresh_loop (d : Nat) : ∀ i : Nat, i + d = 15 → Ev (fun k => spec_FreshTable.l0 k (List.replicate i (-1)) (i : Int)) (List.replicate 15 (-1)) := by
  induction d with
  | zero =>
    intro i hi
    obtain rfl : i = 15 := by omega
    refine Ev.succ ?_
    simp only [spec_FreshTable.l0]
    exact Ev.neg (by omega) (Ev.now _)
  | succ d ih =>
    intro i hi
    have h2 := ih (i + 1) (by omega)
    refine Ev.succ ?_
    simp only [spec_FreshTable.l0]
    rw [succ_i i (by omega), ← List.replicate_succ']
    exact Ev.pos (by omega) (Ev.pos (by rw [List.length_replicate]; omega) h2)
theorem specFresh : Ev (fun k => spec_FreshTable.f k) (List.replicate 15 (-1)) := specFresh_loop 15 0 (by omega)
theorem hop_ev (s : List Int) (p n : Int) (hs : Bytes s) (hl : s.length ≤ 2000) (hp : 0 ≤ p ∧ p ≤ 800000000) (hn : 0 ≤ n ∧ n ≤ 7) : ∃ a b c q, p ≤ q ∧ q ≤ p + 10 ∧ Ev (fun k => spec_l6Hop.f k s p n) (a, b, c, q) := by
  have hm : 1 ≤ mx n 1 ∧ mx n 1 ≤ 7 := by unfold mx; omega
  obtain ⟨a, ha0, ha1, ha⟩ := pick_ev s p 6 hs hl (by omega) (by omega)
  obtain ⟨b, hb0, hb⟩ := num_ev s (p + 1) [0, 1, 2, 3, 4, 5, 15, 14] hs hl (by omega) (by simp) (by simp)
  obtain ⟨c, hc0, hc1, hc⟩ := pick_ev s (p + 1 + 1) (mx n 1) hs hl (by omega) (by omega)
  obtain ⟨y, hy0, hy1, hy⟩ := pick_ev s (p + 1 + 1 + 1) 90 hs hl (by omega) (by omega)
  unfold spec_l6Hop.f
  by_cases y0 : y = 0
  · obtain ⟨v, hv0, hv⟩ := num_ev s (p + 1 + 1 + 1 + 1) [15, -1] hs hl (by omega) (by simp) (by simp)
    exact ⟨v, b, c, _, by omega, by omega, Ev.bind ha (Ev.bind hb (Ev.bind hc (Ev.bind hy (Ev.pos y0 (Ev.bind hv (Ev.now _))))))⟩
  · by_cases y1 : y = 1
    · obtain ⟨v, hv0, hv⟩ := num_ev s (p + 1 + 1 + 1 + 1) [16, -1] hs hl (by omega) (by simp) (by simp)
      exact ⟨a, v, c, _, by omega, by omega, Ev.bind ha (Ev.bind hb (Ev.bind hc (Ev.bind hy (Ev.neg y0 (Ev.pos y1 (Ev.bind hv (Ev.now _)))))))⟩
    · by_cases y2 : y = 2
      · obtain ⟨v, hv0, hv⟩ := num_ev s (p + 1 + 1 + 1 + 1) [n, -1] hs hl (by omega) (by simp) (by simp)
        exact ⟨a, b, v, _, by omega, by omega, Ev.bind ha (Ev.bind hb (Ev.bind hc (Ev.bind hy (Ev.neg y0 (Ev.neg y1 (Ev.pos y2 (Ev.bind hv (Ev.now _))))))))⟩
      · exact ⟨a, b, c, _, by omega, by omega, Ev.bind ha (Ev.bind hb (Ev.bind hc (Ev.bind hy (Ev.neg y0 (Ev.neg y1 (Ev.neg y2 (Ev.now _)))))))⟩
/-! ### The ports' list -/
theorem portsN_mem (p x : Int) (m : Nat) : ∀ y ∈ portsN p x m, y ≠ p ∧ 0 ≤ y ∧ y < (m : Int) := by
  induction m with
  | zero => intro y hy; simp [portsN] at hy
  | succ m ih =>
    intro y hy
    simp only [portsN, List.mem_append] at hy
    rcases hy with hy | hy
    · have := ih y hy
      exact ⟨this.1, by omega, by omega⟩
    · by_cases h1 : (m : Int) = p
      · simp [h1] at hy
      · rw [if_neg h1] at hy
        split at hy
        · have e : y = (m : Int) := by simpa using hy
          subst e
          exact ⟨h1, by omega, by omega⟩
        · simp at hy
theorem portsN_up (p x : Int) (m : Nat) : (portsN p x m).Pairwise (· < ·) := by
  induction m with
  | zero => simp [portsN]
  | succ m ih =>
    simp only [portsN]
    refine List.pairwise_append.2 ⟨ih, ?_, fun a ha b hb => ?_⟩
    · split
      · exact List.Pairwise.nil
      · split
        · exact List.pairwise_singleton _ _
        · exact List.Pairwise.nil
    · have h := portsN_mem p x m a ha
      have e : b = (m : Int) := by
        split at hb
        · simp at hb
        · split at hb
          · simpa using hb
          · simp at hb
      omega
theorem portsN_all (p x : Int) (hx : x < 0) (m : Nat) : ((portsN p x m).length : Int) = (m : Int) - (if 0 ≤ p ∧ p < (m : Int) then 1 else 0) := by
  induction m with
  | zero =>
    rw [if_neg (by omega)]
    simp [portsN]
  | succ m ih =>
    simp only [portsN, List.length_append]
    by_cases h1 : (m : Int) = p
    · rw [if_pos h1, if_pos (by omega)]
      rw [if_neg (by omega)] at ih
      simp
      omega
    · rw [if_neg h1, if_pos (Or.inl hx)]
      by_cases h2 : 0 ≤ p ∧ p < (m : Int)
      · rw [if_pos (by omega)]
        rw [if_pos h2] at ih
        simp
        omega
      · rw [if_neg (by omega)]
        rw [if_neg h2] at ih
        simp
        omega

end Go.Proofs.Ytpgiobhpfolinaa.Pure
