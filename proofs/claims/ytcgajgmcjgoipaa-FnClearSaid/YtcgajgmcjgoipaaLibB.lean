/- Small facts of the pure side: what the laws' copies, comparisons and marks of bytes answer, and that the draws answer, whatever the bytes that they are drawn of. -/
import Derived.Test.YtcgajgmcjgoipaaPAllx1
import Derived.Test.YtcgajgmcjgoipaaPAllx2
import Derived.Test.YtcgajgmcjgoipaaBase
namespace Go.Proofs.Ytcgajgmcjgoipaa.Pure
open Go.RowKit Go.Proofs.Ytcgajgmcjgoipaa.PAll Go.Proofs.YtcgajgmcjgoipaaW.PrintWords Go.Proofs.YtcgajgmcjgoipaaW.PrintLast Go.Proofs.Ytcgajgmcjgoipaa.Base

def Bytes (l : List Int) : Prop := ∀ x ∈ l, 0 ≤ x ∧ x < 256
theorem wf_u8 {b : Int} (h : (Lit.int .u8 b).wf = true) : 0 ≤ b ∧ b < 256 := by
  simp only [Lit.wf, Bool.and_eq_true, decide_eq_true_eq] at h
  have h1 : IntKind.min .u8 = 0 := rfl
  have h2 : IntKind.max .u8 = 255 := rfl
  omega
theorem wf_bytes {l : List Int} (h : ∀ x ∈ l, (Lit.int .u8 x).wf = true) : Bytes l := fun x hx => wf_u8 (h x hx)
theorem succ_i (i : Nat) (h : i ≤ 9223372036854775000) : wrap64 ((i : Int) + 1) = ((i + 1 : Nat) : Int) := by rw [w64 (by omega) (by omega)]; omega
theorem Bytes.at_ {l : List Int} (h : Bytes l) (i : Int) : 0 ≤ rd l i ∧ rd l i < 256 := by
  unfold rd
  rw [List.getD_eq_getElem?_getD]
  cases e : l[i.toNat]? with
  | none => exact ⟨by simp, by simp⟩
  | some x => exact h x (List.mem_of_getElem? e)

/-! The draws. -/
theorem open_eq (l : List Int) : ∃ s, s.length ≤ 2000 ∧ (Bytes l → Bytes s) ∧ spec_l21Open.f l = some (s, 0) := by
  unfold spec_l21Open.f
  by_cases h : (l.length : Int) > 2000
  · refine ⟨l.take 2000, by rw [List.length_take]; omega, fun hb x hx => hb x (List.mem_of_mem_take hx), ?_⟩
    rw [if_pos h, if_pos (by omega)]
  · exact ⟨l, by omega, id, by rw [if_neg h]⟩
theorem pick_ev (s : List Int) (p n : Int) (hs : Bytes s) (hl : s.length ≤ 2000) (hp : 0 ≤ p ∧ p ≤ 1000000000) (hn : 1 ≤ n ∧ n ≤ 1000000000) :
    ∃ x, 0 ≤ x ∧ x < n ∧ Ev (fun k => spec_l21Rd_pick.f k s p n) (x, p + 1) := by
  have e1 : wrap64 (p + 1) = p + 1 := w64 (by omega) (by omega)
  have e2 : wrap64 (p + 1 - 1) = p := by rw [w64 (by omega) (by omega)]; omega
  unfold spec_l21Rd_pick.f
  rw [e1]
  by_cases h0 : s.length = 0
  · refine ⟨0, by omega, by omega, Ev.neg (by omega) (Ev.next (f := fun _ => some (0, p + 1)) (fun k => ?_) (Ev.now _))⟩
    simp only [spec_l21Rd_pick.j0]
    rw [if_pos (by simp [h0])]
  · have hb : ((s.length : Int) == 0) = false := beq_eq_false_iff_ne.mpr (by omega)
    by_cases h1 : p < (s.length : Int)
    · have hr := hs.at_ p
      refine ⟨Int.tmod (rd s p) n, Int.tmod_nonneg _ hr.1, Int.tmod_lt_of_pos _ (by omega), Ev.neg (by omega) (Ev.next (f := fun _ => some (Int.tmod (rd s p) n, p + 1)) (fun k => ?_) (Ev.now _))⟩
      simp only [spec_l21Rd_pick.j0]
      rw [hb, if_neg (by simp), e2, if_pos h1, if_pos hp.1, if_neg (by omega), w64 (by omega) (by omega)]
    · have hq : ∀ x : Int, 0 ≤ x → 0 ≤ Int.tmod x (s.length : Int) ∧ Int.tmod x (s.length : Int) < (s.length : Int) := fun x hx => ⟨Int.tmod_nonneg _ hx, Int.tmod_lt_of_pos _ (by omega)⟩
      have e7 : wrap64 (p * 7) = p * 7 := w64 (by omega) (by omega)
      have e8 : wrap64 (p * 7 + 3) = p * 7 + 3 := w64 (by omega) (by omega)
      have q1 := hq p hp.1
      have q2 := hq (p * 7 + 3) (by omega)
      obtain ⟨i1, hi1⟩ : ∃ i, i = Int.tmod p (s.length : Int) := ⟨_, rfl⟩
      obtain ⟨i2, hi2⟩ : ∃ i, i = Int.tmod (p * 7 + 3) (s.length : Int) := ⟨_, rfl⟩
      rw [← hi1] at q1
      rw [← hi2] at q2
      have r1 := hs.at_ i1
      have r2 := hs.at_ i2
      obtain ⟨d, hd⟩ : ∃ d, d = Int.tdiv p (s.length : Int) := ⟨_, rfl⟩
      have d1 : 0 ≤ d ∧ d ≤ p := by
        rw [hd, Int.tdiv_eq_ediv_of_nonneg hp.1]
        exact ⟨Int.ediv_nonneg hp.1 (by omega), Int.ediv_le_self _ hp.1⟩
      obtain ⟨X, hX⟩ : ∃ X, X = rd s i1 * 131 + rd s i2 * 1117 + p * 29 + d * 53 := ⟨_, rfl⟩
      have hXb : 0 ≤ X ∧ X ≤ 1000000000000 := by omega
      have hx : 0 ≤ Go.bits .xor .i64 X (Int.tdiv X 64) := by
        rw [Int.tdiv_eq_ediv_of_nonneg hXb.1]
        obtain ⟨Y, rfl⟩ := Int.eq_ofNat_of_zero_le hXb.1
        rw [show ((Y : Int) / 64) = ((Y / 64 : Nat) : Int) by omega, xor_nat _ _ (by omega) (by omega)]
        omega
      refine ⟨Int.tmod (Go.bits .xor .i64 X (Int.tdiv X 64)) n, Int.tmod_nonneg _ hx, Int.tmod_lt_of_pos _ (by omega), Ev.neg (by omega) (Ev.next (f := fun _ => some (Int.tmod (Go.bits .xor .i64 X (Int.tdiv X 64)) n, p + 1)) (fun k => ?_) (Ev.now _))⟩
      simp only [spec_l21Rd_pick.j0]
      rw [hb, if_neg (by simp), e2, if_neg h1, if_neg (by omega), e7, e8, ← hi1, ← hi2, ← hd, if_pos q1.1, if_pos q1.2, if_pos q2.1, if_pos q2.2, if_neg (by omega)]
      have f1 : wrap64 (rd s i1) = rd s i1 := w64 (by omega) (by omega)
      have f2 : wrap64 (rd s i2) = rd s i2 := w64 (by omega) (by omega)
      have f3 : wrap64 (rd s i1 * 131) = rd s i1 * 131 := w64 (by omega) (by omega)
      have f4 : wrap64 (rd s i2 * 1117) = rd s i2 * 1117 := w64 (by omega) (by omega)
      have f5 : wrap64 (rd s i1 * 131 + rd s i2 * 1117) = rd s i1 * 131 + rd s i2 * 1117 := w64 (by omega) (by omega)
      have f6 : wrap64 (p * 29) = p * 29 := w64 (by omega) (by omega)
      have f7 : wrap64 (rd s i1 * 131 + rd s i2 * 1117 + p * 29) = rd s i1 * 131 + rd s i2 * 1117 + p * 29 := w64 (by omega) (by omega)
      have f8 : wrap64 d = d := w64 (by omega) (by omega)
      have f9 : wrap64 (d * 53) = d * 53 := w64 (by omega) (by omega)
      have f10 : wrap64 (rd s i1 * 131 + rd s i2 * 1117 + p * 29 + d * 53) = X := by rw [← hX]; exact w64 (by omega) (by omega)
      have f11 : wrap64 (Int.tdiv X 64) = Int.tdiv X 64 := by
        rw [Int.tdiv_eq_ediv_of_nonneg hXb.1]
        exact w64 (by omega) (by omega)
      rw [f1, f2, f3, f4, f5, f6, f7, f8, f9, f10, f11]
theorem num_ev (s : List Int) (p : Int) (l : List Int) (hs : Bytes s) (hl : s.length ≤ 2000) (hp : 0 ≤ p ∧ p ≤ 1000000000) (h1 : 1 ≤ l.length) (h2 : l.length ≤ 1000000) :
    ∃ x, x ∈ l ∧ Ev (fun k => spec_l21Rd_num.f k s p l) (x, p + 1) := by
  obtain ⟨x, hx0, hx1, hx⟩ := pick_ev s p (l.length : Int) hs hl hp (by omega)
  refine ⟨rd l x, ?_, ?_⟩
  · obtain ⟨i, rfl⟩ := Int.eq_ofNat_of_zero_le hx0
    rw [rd_get l i (by omega)]
    exact List.getElem_mem _
  · unfold spec_l21Rd_num.f
    exact Ev.bind hx (Ev.pos hx0 (Ev.pos hx1 (Ev.now _)))
theorem some_loop (s : List Int) (n : Int) (hs : Bytes s) (hl : s.length ≤ 2000) (hn : n ≤ 1000000) (d : Nat) : ∀ (i : Nat) (x5 : List Int) (p : Int), (n - (i : Int)).toNat = d → (i : Int) ≤ n ∨ i = 0 → x5.length = i → Bytes x5 → 0 ≤ p → p + 2 * d ≤ 900000000 →
    ∃ b q, Bytes b ∧ (b.length : Int) = max n i ∧ p ≤ q ∧ q ≤ p + 2 * d ∧ Ev (fun k => spec_l1Some.l0 k n x5 (i : Int) s p) (b, q) := by
  induction d with
  | zero =>
    intro i x5 p h1 h2 h3 h4 h5 h6
    refine ⟨x5, p, h4, by omega, by omega, by omega, Ev.next (f := fun _ => some (x5, p)) (fun k => ?_) (Ev.now _)⟩
    simp only [spec_l1Some.l0]
    rw [if_neg (by omega)]
  | succ d ih =>
    intro i x5 p h1 h2 h3 h4 h5 h6
    obtain ⟨x, hx0, hx1, hx⟩ := pick_ev s p 4 hs hl (by omega) (by omega)
    by_cases hz : x = 0
    · obtain ⟨y, hy0, hy⟩ := num_ev s (p + 1) [0, 1, 125, 126, 127, 128, 255, 94, 93] hs hl (by omega) (by simp) (by simp)
      obtain ⟨b, q, hb, hbl, hq1, hq2, hE⟩ := ih (i + 1) (x5 ++ [y % 256]) (p + 2) (by omega) (by omega) (by simp [h3]) (fun z hz => by
        rcases List.mem_append.1 hz with hz | hz
        · exact h4 z hz
        · obtain rfl := List.mem_singleton.1 hz
          omega) (by omega) (by omega)
      refine ⟨b, q, hb, by omega, by omega, by omega, Ev.next (f := fun k => (spec_l21Rd_pick.f k s p 4).bind fun bt => (if bt.1 = 0 then ((spec_l21Rd_num.f k s bt.2 (([0, 1, 125, 126, 127, 128, 255, 94, 93] : List Int))).bind fun bu => (if x5.length < 140737488355328 then (spec_l1Some.l0 k n (x5 ++ [(bu.1) % 256]) ((i + 1 : Nat) : Int) s bu.2) else (none))) else ((spec_l21Rd_pick.f k s bt.2 256).bind fun bu => (if x5.length < 140737488355328 then (spec_l1Some.l0 k n (x5 ++ [(bu.1) % 256]) ((i + 1 : Nat) : Int) s bu.2) else (none))))) (fun k => ?_) ?_⟩
      · simp only [spec_l1Some.l0]
        rw [if_pos (by omega), succ_i i (by omega)]
      · refine Ev.bind hx (Ev.pos hz (Ev.bind hy (Ev.pos (by omega) ?_)))
        rw [show p + 1 + 1 = p + 2 by omega]
        exact hE
    · obtain ⟨y, hy0, hy1, hy⟩ := pick_ev s (p + 1) 256 hs hl (by omega) (by omega)
      obtain ⟨b, q, hb, hbl, hq1, hq2, hE⟩ := ih (i + 1) (x5 ++ [y % 256]) (p + 2) (by omega) (by omega) (by simp [h3]) (fun z hz => by
        rcases List.mem_append.1 hz with hz | hz
        · exact h4 z hz
        · obtain rfl := List.mem_singleton.1 hz
          omega) (by omega) (by omega)
      refine ⟨b, q, hb, by omega, by omega, by omega, Ev.next (f := fun k => (spec_l21Rd_pick.f k s p 4).bind fun bt => (if bt.1 = 0 then ((spec_l21Rd_num.f k s bt.2 (([0, 1, 125, 126, 127, 128, 255, 94, 93] : List Int))).bind fun bu => (if x5.length < 140737488355328 then (spec_l1Some.l0 k n (x5 ++ [(bu.1) % 256]) ((i + 1 : Nat) : Int) s bu.2) else (none))) else ((spec_l21Rd_pick.f k s bt.2 256).bind fun bu => (if x5.length < 140737488355328 then (spec_l1Some.l0 k n (x5 ++ [(bu.1) % 256]) ((i + 1 : Nat) : Int) s bu.2) else (none))))) (fun k => ?_) ?_⟩
      · simp only [spec_l1Some.l0]
        rw [if_pos (by omega), succ_i i (by omega)]
      · refine Ev.bind hx (Ev.neg hz (Ev.bind hy (Ev.pos (by omega) ?_)))
        rw [show p + 1 + 1 = p + 2 by omega]
        exact hE
theorem some_ev (s : List Int) (p n : Int) (hs : Bytes s) (hl : s.length ≤ 2000) (hp : 0 ≤ p ∧ p ≤ 800000000) (hn : 0 ≤ n ∧ n ≤ 1000000) :
    ∃ b q, Bytes b ∧ (b.length : Int) = n ∧ p ≤ q ∧ q ≤ p + 2 * n ∧ Ev (fun k => spec_l1Some.f k s p n) (b, q) := by
  obtain ⟨b, q, h1, h2, h3, h4, h5⟩ := some_loop s n hs hl hn.2 n.toNat 0 [] p (by omega) (by omega) rfl (fun x hx => by cases hx) hp.1 (by omega)
  exact ⟨b, q, h1, by omega, h3, by omega, h5⟩

end Go.Proofs.Ytcgajgmcjgoipaa.Pure
