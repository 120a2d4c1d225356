/- What the program's and the reference's RunBridge answer: hop by hop, by the bridge's table. -/
import Derived.Test.YtpgiobhpfolinaaPAllx0
import Derived.Test.YtpgiobhpfolinaaPAllx1
import Derived.Test.YtpgiobhpfolinaaPAllx6
import Derived.Test.YtpgiobhpfolinaaPAllx7
import Derived.Test.YtpgiobhpfolinaaPAllx12
import Derived.Test.YtpgiobhpfolinaaPAllx13
import Derived.Test.YtpgiobhpfolinaaBridgeD
namespace Go.Proofs.Ytpgiobhpfolinaa.Pure
open Go.RowKit Go.Proofs.Ytpgiobhpfolinaa.PAll Go.Proofs.YtpgiobhpfolinaaW.PrintWords Go.Proofs.YtpgiobhpfolinaaW.PrintLast Go.Proofs.YtpgiobhpfolinaaW.PrintMore Go.Proofs.Ytpgiobhpfolinaa.Base

def fresh : List Int := List.replicate 15 (-1)
/-- What has come when the first hops are over. -/
def runN (n : Int) (hs : List S42) : Nat → List Int × List (List Int) × Bool
  | 0 => (fresh, [], true)
  | m + 1 =>
    if (runN n hs m).2.2 = true ∧ (stepI (runN n hs m).1 n (rd_T42 hs (m : Int)).f0 (rd_T42 hs (m : Int)).f1 (rd_T42 hs (m : Int)).f2).2.2 = true then
      ((stepI (runN n hs m).1 n (rd_T42 hs (m : Int)).f0 (rd_T42 hs (m : Int)).f1 (rd_T42 hs (m : Int)).f2).1, (runN n hs m).2.1 ++ [(stepI (runN n hs m).1 n (rd_T42 hs (m : Int)).f0 (rd_T42 hs (m : Int)).f1 (rd_T42 hs (m : Int)).f2).2.1], true)
    else ([], [], false)
def nextI (r : List Int) (n : Int) (h : S42) : List Int × List Int × Bool := stepI r n h.f0 h.f1 h.f2
theorem runN_yes {n : Int} {hs : List S42} {m : Nat} (h : (runN n hs m).2.2 = true ∧ (nextI (runN n hs m).1 n (rd_T42 hs (m : Int))).2.2 = true) :
    runN n hs (m + 1) = ((nextI (runN n hs m).1 n (rd_T42 hs (m : Int))).1, (runN n hs m).2.1 ++ [(nextI (runN n hs m).1 n (rd_T42 hs (m : Int))).2.1], true) := if_pos h
theorem runN_no {n : Int} {hs : List S42} {m : Nat} (h : ¬ ((runN n hs m).2.2 = true ∧ (nextI (runN n hs m).1 n (rd_T42 hs (m : Int))).2.2 = true)) : runN n hs (m + 1) = ([], [], false) := if_neg h
theorem runN_stays {n : Int} {hs : List S42} {m : Nat} (h : runN n hs m = ([], [], false)) (d : Nat) : runN n hs (m + d) = ([], [], false) := by
  induction d with
  | zero => exact h
  | succ d ih =>
    show runN n hs (m + d + 1) = _
    exact runN_no (fun e => by rw [ih] at e; cases e.1)
theorem runN_back {n : Int} {hs : List S42} {m : Nat} (h : (runN n hs (m + 1)).2.2 = true) : (runN n hs m).2.2 = true ∧ (nextI (runN n hs m).1 n (rd_T42 hs (m : Int))).2.2 = true := by
  by_cases e : (runN n hs m).2.2 = true ∧ (nextI (runN n hs m).1 n (rd_T42 hs (m : Int))).2.2 = true
  · exact e
  · rw [runN_no e] at h
    cases h
theorem runN_ok {n : Int} {hs : List S42} {m : Nat} (h : (runN n hs m).2.2 = true) (i : Nat) (hi : i ≤ m) : (runN n hs i).2.2 = true := by
  induction m with
  | zero =>
    obtain rfl : i = 0 := by omega
    exact h
  | succ m ih =>
    by_cases e : i = m + 1
    · rw [e]
      exact h
    · exact ih (runN_back h).1 (by omega)
theorem runN_len {n : Int} {hs : List S42} {m : Nat} (h : (runN n hs m).2.2 = true) : (runN n hs m).2.1.length = m := by
  induction m with
  | zero => rfl
  | succ m ih =>
    have hb := runN_back h
    rw [runN_yes hb]
    show ((runN n hs m).2.1 ++ [_]).length = m + 1
    rw [List.length_append, ih hb.1]
    rfl
theorem runN_out {n : Int} {hs : List S42} {m : Nat} (h : (runN n hs m).2.2 = true) (i : Nat) (hi : i < m) : rd_L1 (runN n hs m).2.1 (i : Int) = (nextI (runN n hs i).1 n (rd_T42 hs (i : Int))).2.1 := by
  induction m with
  | zero => omega
  | succ m ih =>
    have hb := runN_back h
    have hl := runN_len hb.1
    rw [runN_yes hb]
    show ((runN n hs m).2.1 ++ [_]).getD ((i : Int).toNat) [] = _
    rw [Int.toNat_natCast, List.getD_eq_getElem?_getD]
    by_cases e : i = m
    · subst e
      rw [List.getElem?_append_right (by omega), hl, Nat.sub_self]
      rfl
    · rw [List.getElem?_append_left (by omega), ← ih hb.1 (by omega)]
      show _ = (runN n hs m).2.1.getD ((i : Int).toNat) []
      rw [Int.toNat_natCast, List.getD_eq_getElem?_getD]
theorem runN_take (n : Int) (hs : List S42) (c m : Nat) (hm : m ≤ c) : runN n (hs.take c) m = runN n hs m := by
  induction m with
  | zero => rfl
  | succ m ih =>
    have e : rd_T42 (hs.take c) (m : Int) = rd_T42 hs (m : Int) := by
      unfold rd_T42
      rw [Int.toNat_natCast, List.getD_eq_getElem?_getD, List.getD_eq_getElem?_getD, List.getElem?_take, if_pos (by omega)]
    simp only [runN]
    rw [ih (by omega), e]
theorem stepI_len (l : List Int) (n s d p : Int) : (stepI l n s d p).1.length ≤ 15 ∧ (stepI l n s d p).2.1.length ≤ 6 := by
  unfold stepI
  split
  · rename_i h
    exact ⟨by show (l.set s.toNat p).length ≤ 15; rw [List.length_set, h.1.1.2.1]; omega, portsI_len _ _ _ _⟩
  · simp
theorem runN_size (n : Int) (hs : List S42) (m : Nat) : (runN n hs m).1.length ≤ 15 ∧ (∀ x ∈ (runN n hs m).2.1, x.length ≤ 6) ∧ (runN n hs m).2.1.length ≤ m := by
  induction m with
  | zero => simp [runN, fresh]
  | succ m ih =>
    by_cases e : (runN n hs m).2.2 = true ∧ (nextI (runN n hs m).1 n (rd_T42 hs (m : Int))).2.2 = true
    · have hs2 := stepI_len (runN n hs m).1 n (rd_T42 hs (m : Int)).f0 (rd_T42 hs (m : Int)).f1 (rd_T42 hs (m : Int)).f2
      rw [runN_yes e]
      refine ⟨hs2.1, fun x hx => ?_, ?_⟩
      · rcases List.mem_append.1 hx with hx | hx
        · exact ih.2.1 x hx
        · obtain rfl := List.mem_singleton.1 hx
          exact hs2.2
      · show ((runN n hs m).2.1 ++ [_]).length ≤ m + 1
        rw [List.length_append]
        have := ih.2.2
        simp
        omega
    · rw [runN_no e]
      simp
/-- What RunBridge answers. -/
def runI (n : Int) (hs : List S42) : List Int × List (List Int) × Bool := if (1 ≤ n ∧ n ≤ 6) ∧ hs.length ≤ 60 then runN n hs hs.length else ([], [], false)
theorem runI_yes {n : Int} {hs : List S42} (h : (1 ≤ n ∧ n ≤ 6) ∧ hs.length ≤ 60) : runI n hs = runN n hs hs.length := if_pos h
theorem runI_no {n : Int} {hs : List S42} (h : ¬ ((1 ≤ n ∧ n ≤ 6) ∧ hs.length ≤ 60)) : runI n hs = ([], [], false) := if_neg h
theorem runI_size (n : Int) (hs : List S42) : (runI n hs).1.length ≤ 15 ∧ (∀ x ∈ (runI n hs).2.1, x.length ≤ 6) ∧ (runI n hs).2.1.length ≤ 60 := by
  by_cases h : (1 ≤ n ∧ n ≤ 6) ∧ hs.length ≤ 60
  · rw [runI_yes h]
    have := runN_size n hs hs.length
    exact ⟨this.1, this.2.1, by omega⟩
  · rw [runI_no h]
    simp
theorem implRun_loop (n : Int) (hs : List S42) (hl : hs.length ≤ 60) (d : Nat) : ∀ i : Nat, i + d = hs.length → (runN n hs i).2.2 = true → Ev (fun k => impl_RunBridge.l0 k n (runN n hs i).1 (runN n hs i).2.1 hs (hs.length : Int) (i : Int)) (runN n hs hs.length) := by
  induction d with
  | zero =>
    intro i hi hok
    obtain rfl : i = hs.length := by omega
    refine Ev.succ ?_
    simp only [impl_RunBridge.l0]
    refine Ev.neg (by omega) (Ev.eq (Ev.now _) ?_)
    rw [← hok]
  | succ d ih =>
    intro i hi hok
    refine Ev.succ ?_
    simp only [impl_RunBridge.l0]
    rw [succ_i i (by omega)]
    refine Ev.pos (by omega) (Ev.pos (by omega) (Ev.pos (by omega) (Ev.bind (implStep _ _ _ _ _) ?_)))
    by_cases hc : (nextI (runN n hs i).1 n (rd_T42 hs (i : Int))).2.2 = true
    · have hy := runN_yes ⟨hok, hc⟩
      have h2 := ih (i + 1) (by omega) (by rw [hy])
      rw [hy] at h2
      have hz := (runN_size n hs i).2.2
      exact Ev.pos hc (Ev.pos (by omega) h2)
    · have hn := runN_stays (runN_no (m := i) (n := n) (hs := hs) (fun e => hc e.2)) (hs.length - (i + 1))
      rw [show i + 1 + (hs.length - (i + 1)) = hs.length by omega] at hn
      rw [hn]
      exact Ev.neg hc (Ev.now _)
theorem implFresh : impl_FreshTable.f = some fresh := rfl
theorem implRun (n : Int) (hs : List S42) : Ev (fun k => impl_RunBridge.f k n hs) (runI n hs) := by
  unfold impl_RunBridge.f impl_portsOk.f
  refine Ev.bindc (a := decide (1 ≤ n ∧ n ≤ 6)) (by rw [within_eq]; rfl) ?_
  by_cases hn : 1 ≤ n ∧ n ≤ 6
  · refine Ev.pos (decide_eq_true hn) (Ev.succ ?_)
    simp only [impl_RunBridge.j0]
    by_cases hl : hs.length ≤ 60
    · rw [runI_yes ⟨hn, hl⟩, show decide ((hs.length : Int) > 60) = false from decide_eq_false (by omega)]
      exact Ev.neg Bool.false_ne_true (Ev.bindc implFresh (implRun_loop n hs hl hs.length 0 (by omega) rfl))
    · rw [runI_no (fun e => hl e.2), show decide ((hs.length : Int) > 60) = true from decide_eq_true (by omega)]
      exact Ev.pos rfl (Ev.now _)
  · rw [runI_no (fun e => hn e.1)]
    refine Ev.neg (by simpa using hn) (Ev.succ ?_)
    simp only [impl_RunBridge.j0]
    exact Ev.pos trivial (Ev.now _)
theorem specRun_loop (n : Int) (hs : List S42) (hl : hs.length ≤ 60) (d : Nat) : ∀ i : Nat, i + d = hs.length → (runN n hs i).2.2 = true → Ev (fun k => spec_RunBridge.l0 k n hs (runN n hs i).1 (runN n hs i).2.1 (i : Int)) (runN n hs hs.length) := by
  induction d with
  | zero =>
    intro i hi hok
    obtain rfl : i = hs.length := by omega
    refine Ev.succ ?_
    simp only [spec_RunBridge.l0]
    refine Ev.neg (by omega) (Ev.eq (Ev.now _) ?_)
    rw [← hok]
  | succ d ih =>
    intro i hi hok
    refine Ev.succ ?_
    simp only [spec_RunBridge.l0]
    rw [succ_i i (by omega)]
    refine Ev.pos (by omega) (Ev.pos (by omega) (Ev.bind (specStep _ _ _ _ _) ?_))
    by_cases hc : (nextI (runN n hs i).1 n (rd_T42 hs (i : Int))).2.2 = true
    · have hy := runN_yes ⟨hok, hc⟩
      have h2 := ih (i + 1) (by omega) (by rw [hy])
      rw [hy] at h2
      have hz := (runN_size n hs i).2.2
      exact Ev.pos hc (Ev.pos (by omega) h2)
    · have hn := runN_stays (runN_no (m := i) (n := n) (hs := hs) (fun e => hc e.2)) (hs.length - (i + 1))
      rw [show i + 1 + (hs.length - (i + 1)) = hs.length by omega] at hn
      rw [hn]
      exact Ev.neg hc (Ev.now _)
theorem specRun (n : Int) (hs : List S42) : Ev (fun k => spec_RunBridge.f k n hs) (runI n hs) := by
  unfold spec_RunBridge.f
  refine Ev.bind specFresh (Ev.bindc rfl (Ev.bindc (l1In_eq _ _ _) ?_))
  by_cases hn : 1 ≤ n ∧ n ≤ 6
  · refine Ev.pos (decide_eq_true hn) (Ev.succ ?_)
    simp only [spec_RunBridge.j0]
    by_cases hl : hs.length ≤ 60
    · rw [runI_yes ⟨hn, hl⟩, show decide ((hs.length : Int) > 60) = false from decide_eq_false (by omega)]
      exact Ev.neg Bool.false_ne_true (specRun_loop n hs hl hs.length 0 (by omega) rfl)
    · rw [runI_no (fun e => hl e.2), show decide ((hs.length : Int) > 60) = true from decide_eq_true (by omega)]
      exact Ev.pos rfl (Ev.now _)
  · rw [runI_no (fun e => hn e.1)]
    refine Ev.neg (by simpa using hn) (Ev.succ ?_)
    simp only [spec_RunBridge.j0]
    exact Ev.pos trivial (Ev.now _)

/-! ### What a run learns -/
/-- The port of the last of the first hops that came from a station. -/
def lastN (hs : List S42) (s : Int) : Nat → Int
  | 0 => -1
  | m + 1 => if (rd_T42 hs (m : Int)).f0 = s then (rd_T42 hs (m : Int)).f2 else lastN hs s m
theorem next_yes {r : List Int} {n : Int} {h : S42} (e : (nextI r n h).2.2 = true) : learnP r n h.f0 h.f2 ∧ (nextI r n h).1 = r.set h.f0.toNat h.f2 := by
  unfold nextI stepI at *
  by_cases c : learnP r n h.f0 h.f2 ∧ (0 ≤ h.f1 ∧ h.f1 ≤ 15)
  · exact ⟨c.1, by rw [if_pos c]⟩
  · rw [if_neg c] at e
    cases e
theorem run_last {n : Int} {hs : List S42} {m : Nat} (h : (runN n hs m).2.2 = true) : (runN n hs m).1.length = 15 ∧ ∀ s : Nat, s < 15 → rd (runN n hs m).1 (s : Int) = lastN hs (s : Int) m := by
  induction m with
  | zero =>
    refine ⟨rfl, fun s hs2 => ?_⟩
    show rd fresh (s : Int) = -1
    unfold fresh
    rw [rd_get _ s (by simpa using hs2)]
    exact List.getElem_replicate _
  | succ m ih =>
    have hb := runN_back h
    obtain ⟨h1, h2⟩ := ih hb.1
    obtain ⟨p1, p2⟩ := next_yes hb.2
    rw [runN_yes hb]
    show (nextI (runN n hs m).1 n (rd_T42 hs (m : Int))).1.length = 15 ∧ ∀ s : Nat, s < 15 → rd (nextI (runN n hs m).1 n (rd_T42 hs (m : Int))).1 (s : Int) = lastN hs (s : Int) (m + 1)
    rw [p2]
    refine ⟨by rw [List.length_set, h1], fun s hs2 => ?_⟩
    simp only [lastN]
    have hr := p1.2.1
    by_cases e : (rd_T42 hs (m : Int)).f0 = (s : Int)
    · rw [if_pos e, ← e, rd_set_self _ _ _ (by omega) (by omega)]
    · rw [if_neg e, rd_set_ne _ _ _ _ (by omega) (by omega) e, h2 s hs2]
theorem knownN_set (l : List Int) (s : Int) (p : Int) (h0 : 0 ≤ s) (m : Nat) : (knownN (l.set s.toNat p) m).length ≤ (knownN l m).length + (if s < (m : Int) then 1 else 0) := by
  induction m with
  | zero => simp [knownN]
  | succ m ih =>
    simp only [knownN, List.length_append]
    by_cases e : s = (m : Int)
    · rw [if_neg (by omega)] at ih
      rw [if_pos (show s < ((m + 1 : Nat) : Int) by omega)]
      have : (if rd (l.set s.toNat p) (m : Int) ≥ 0 then [(m : Int)] else []).length ≤ 1 := by split <;> simp
      omega
    · rw [rd_set_ne l s (m : Int) p h0 (by omega) e]
      by_cases c : s < (m : Int)
      · rw [if_pos c] at ih
        rw [if_pos (show s < ((m + 1 : Nat) : Int) by omega)]
        omega
      · rw [if_neg c] at ih
        rw [if_neg (show ¬ s < ((m + 1 : Nat) : Int) by omega)]
        omega
theorem knownN_fresh (m : Nat) (hm : m ≤ 15) : knownN fresh m = [] := by
  induction m with
  | zero => rfl
  | succ m ih =>
    simp only [knownN]
    rw [ih (by omega)]
    have : rd fresh (m : Int) = -1 := by
      unfold fresh
      rw [rd_get _ m (by simp; omega)]
      exact List.getElem_replicate _
    rw [this]
    rfl
theorem run_known {n : Int} {hs : List S42} {m : Nat} (h : (runN n hs m).2.2 = true) : (knownN (runN n hs m).1 15).length ≤ m := by
  induction m with
  | zero =>
    show (knownN fresh 15).length ≤ 0
    rw [knownN_fresh 15 (Nat.le_refl _)]
    exact Nat.le_refl _
  | succ m ih =>
    have hb := runN_back h
    have h1 := (run_last hb.1).1
    obtain ⟨p1, p2⟩ := next_yes hb.2
    have hr := p1.2.1
    rw [runN_yes hb]
    show (knownN (nextI (runN n hs m).1 n (rd_T42 hs (m : Int))).1 15).length ≤ m + 1
    rw [p2]
    have h3 := knownN_set (runN n hs m).1 (rd_T42 hs (m : Int)).f0 (rd_T42 hs (m : Int)).f2 (by omega) 15
    have h4 := ih hb.1
    rw [if_pos (by omega)] at h3
    omega
theorem knownN_mem (l : List Int) (m : Nat) : ∀ x ∈ knownN l m, 0 ≤ x ∧ x < (m : Int) ∧ rd l x ≥ 0 := by
  induction m with
  | zero =>
    intro x hx
    cases hx
  | succ m ih =>
    intro x hx
    simp only [knownN] at hx
    rcases List.mem_append.1 hx with hx | hx
    · have := ih x hx
      exact ⟨this.1, by omega, this.2.2⟩
    · by_cases c : rd l (m : Int) ≥ 0
      · rw [if_pos c] at hx
        obtain rfl := List.mem_singleton.1 hx
        exact ⟨by omega, by omega, c⟩
      · rw [if_neg c] at hx
        cases hx

/-! ### Lists of lists, and the draw -/
theorem wnPairs_loop (a : List (List Int)) (ha : a.length ≤ 1000) (hx : ∀ x ∈ a, x.length ≤ 1000) (d : Nat) : ∀ i : Nat, i + d = a.length → Ev (fun k => laws_wnPairs.l0 k a a (a.length : Int) (i : Int)) true := by
  induction d with
  | zero =>
    intro i hi
    refine Ev.succ ?_
    simp only [laws_wnPairs.l0]
    exact Ev.neg (by omega) (Ev.now _)
  | succ d ih =>
    intro i hi
    have hxi : (rd_L1 a (i : Int)).length ≤ 1000 := by
      unfold rd_L1
      rw [Int.toNat_natCast, List.getD_eq_getElem?_getD, List.getElem?_eq_getElem (by omega)]
      exact hx _ (List.getElem_mem _)
    refine Ev.succ ?_
    simp only [laws_wnPairs.l0]
    rw [succ_i i (by omega)]
    exact Ev.pos (by omega) (Ev.pos (by omega) (Ev.pos (by omega) (Ev.pos (by omega) (Ev.bind (wnInts_self _ (by omega)) (Ev.pos rfl (ih (i + 1) (by omega)))))))
theorem wnPairs_self (a : List (List Int)) (ha : a.length ≤ 1000) (hx : ∀ x ∈ a, x.length ≤ 1000) : Ev (fun k => laws_wnPairs.f k a a) true := by
  unfold laws_wnPairs.f
  exact Ev.pos rfl (wnPairs_loop a ha hx a.length 0 (by omega))
theorem drawRun_loop (s : List Int) (n : Int) (hn : 0 ≤ n ∧ n ≤ 7) (hs : Bytes s) (hl : s.length ≤ 2000) (d : Nat) : ∀ (x : List S42) (p : Int), d ≤ 20 → x.length + d ≤ 20 → 0 ≤ p → p + 10 * d ≤ 100000 → ∃ r : List S42, r.length ≤ 20 ∧ Ev (fun k => spec_DrawRunBridge.l0 k n x (d : Int) s p) (n, r) := by
  induction d with
  | zero =>
    intro x p _ h2 _ _
    refine ⟨x, by omega, Ev.succ ?_⟩
    simp only [spec_DrawRunBridge.l0]
    exact Ev.neg (by omega) (Ev.now _)
  | succ d ih =>
    intro x p h1 h2 h3 h4
    obtain ⟨a, b, c, q, q1, q2, hh⟩ := hop_ev s p n hs hl (by omega) hn
    obtain ⟨r, r1, r2⟩ := ih (x ++ [(⟨a, b, c⟩ : S42)]) q (by omega) (by simp; omega) (by omega) (by omega)
    refine ⟨r, r1, Ev.succ ?_⟩
    simp only [spec_DrawRunBridge.l0]
    rw [show wrap64 (((d + 1 : Nat) : Int) - 1) = (d : Int) by rw [w64 (by omega) (by omega)]; omega]
    exact Ev.pos (by omega) (Ev.bind hh (Ev.pos (by omega) r2))
theorem drawRun_ev (l : List Int) (hb : Bytes l) : ∃ (n : Int) (r : List S42), r.length ≤ 20 ∧ Ev (fun k => spec_DrawRunBridge.f k l) (n, r) := by
  obtain ⟨s, hl, hs, ho⟩ := open_eq l
  obtain ⟨n, hn, hE⟩ := num_ev s 0 [3, 4, 2, 6, 1, 3, 4, 2, 0, 7] (hs hb) hl (by omega) (by simp) (by simp)
  have hn2 : 0 ≤ n ∧ n ≤ 7 := by simp at hn; omega
  obtain ⟨m, hm, hM⟩ := num_ev s (0 + 1) [5, 9, 2, 0, 20] (hs hb) hl (by omega) (by simp) (by simp)
  have hm2 : 0 ≤ m ∧ m ≤ 20 := by simp at hm; omega
  obtain ⟨d, rfl⟩ := Int.eq_ofNat_of_zero_le hm2.1
  obtain ⟨r, r1, r2⟩ := drawRun_loop s n hn2 (hs hb) hl d [] (0 + 1 + 1) (by omega) (by simp; omega) (by omega) (by omega)
  refine ⟨n, r, r1, ?_⟩
  unfold spec_DrawRunBridge.f
  exact Ev.bindc ho (Ev.bind hE (Ev.bind hM r2))

end Go.Proofs.Ytpgiobhpfolinaa.Pure
