/- What the program's and the reference's functions on bridge tables answer, as plain functions of lists. -/
import Derived.Test.YtpgiobhpfolinaaPAllx2
import Derived.Test.YtpgiobhpfolinaaPAllx3
import Derived.Test.YtpgiobhpfolinaaPAllx4
import Derived.Test.YtpgiobhpfolinaaPAllx5
import Derived.Test.YtpgiobhpfolinaaPAllx6
import Derived.Test.YtpgiobhpfolinaaPAllx7
import Derived.Test.YtpgiobhpfolinaaPAllx8
import Derived.Test.YtpgiobhpfolinaaPAllx9
import Derived.Test.YtpgiobhpfolinaaLibI
namespace Go.Proofs.Ytpgiobhpfolinaa.Pure
open Go.RowKit Go.Proofs.Ytpgiobhpfolinaa.PAll Go.Proofs.YtpgiobhpfolinaaW.PrintWords Go.Proofs.YtpgiobhpfolinaaW.PrintLast Go.Proofs.YtpgiobhpfolinaaW.PrintMore Go.Proofs.Ytpgiobhpfolinaa.Base

theorem l1In_eq (a b c : Int) : spec_l1In.f a b c = some (decide (b ≤ a ∧ a ≤ c)) := by
  unfold spec_l1In.f
  by_cases h : a ≥ b
  · rw [if_pos h]; simp [show b ≤ a from h]
  · rw [if_neg h]; simp; omega
theorem within_eq (a b c : Int) : impl_within.f a b c = some (decide (b ≤ a ∧ a ≤ c)) := by
  unfold impl_within.f
  by_cases h : b ≤ a
  · rw [if_pos h]; simp [h]
  · rw [if_neg h]; simp [h]
theorem isStation_eq (a : Int) : impl_isStation.f a = some (decide (0 ≤ a ∧ a ≤ 14)) := by
  unfold impl_isStation.f
  rw [within_eq, Option.bind_some]

/-! ### The table -/
def TVp (l : List Int) (n : Int) : Prop := (1 ≤ n ∧ n ≤ 6) ∧ l.length = 15 ∧ ∀ x ∈ l, -1 ≤ x ∧ x ≤ n - 1
instance (l : List Int) (n : Int) : Decidable (TVp l n) := by unfold TVp; infer_instance
def TV (l : List Int) (n : Int) : Bool := decide (TVp l n)
theorem implTV (l : List Int) (n : Int) : impl_TableValid.f l n = some (TV l n) := by
  unfold impl_TableValid.f TV TVp
  congr 1
  rw [Bool.eq_iff_iff]
  simp [and_assoc]
theorem TV_p {l : List Int} {n : Int} (h : TV l n = true) : TVp l n := of_decide_eq_true h
theorem TV_no {l : List Int} {n : Int} (h : ¬ TVp l n) : TV l n = false := decide_eq_false h
theorem TV_rd {l : List Int} {n : Int} (h : TVp l n) (i : Int) (h0 : 0 ≤ i) (h1 : i < 15) : -1 ≤ rd l i ∧ rd l i ≤ n - 1 := by
  obtain ⟨i, rfl⟩ := Int.eq_ofNat_of_zero_le h0
  have hl := h.2.1
  rw [rd_get l i (by omega)]
  exact h.2.2 _ (List.getElem_mem _)
theorem specTV_loop (l : List Int) (n : Int) (hn : 1 ≤ n ∧ n ≤ 6) (hl : l.length = 15) (d : Nat) : ∀ i : Nat, i + d = 15 → (∀ j, j < i → -1 ≤ rd l (j : Int) ∧ rd l (j : Int) ≤ n - 1) → Ev (fun k => spec_TableValid.l0 k l n (i : Int)) (TV l n) := by
  induction d with
  | zero =>
    intro i hi h
    refine Ev.succ ?_
    simp only [spec_TableValid.l0]
    refine Ev.neg (by omega) (Ev.eq (Ev.now _) (decide_eq_true ⟨hn, hl, fun x hx => ?_⟩).symm)
    obtain ⟨j, hj, rfl⟩ := List.getElem_of_mem hx
    have := h j (by omega)
    rw [rd_get l j hj] at this
    exact this
  | succ d ih =>
    intro i hi h
    refine Ev.succ ?_
    simp only [spec_TableValid.l0]
    rw [succ_i i (by omega), w64 (x := n - 1) (by omega) (by omega)]
    refine Ev.pos (by omega) (Ev.pos (by omega) (Ev.bindc (l1In_eq _ _ _) ?_))
    by_cases hx : -1 ≤ rd l (i : Int) ∧ rd l (i : Int) ≤ n - 1
    · refine Ev.pos (decide_eq_true hx) (ih (i + 1) (by omega) (fun j hj => ?_))
      by_cases e : j = i
      · subst e
        exact hx
      · exact h j (by omega)
    · exact Ev.eq (Ev.neg (by simpa using hx) (Ev.now _)) (TV_no (fun t => hx (TV_rd t i (by omega) (by omega)))).symm
theorem specTV (l : List Int) (n : Int) : Ev (fun k => spec_TableValid.f k l n) (TV l n) := by
  have no : ¬ TVp l n → Ev (fun k => spec_TableValid.j0 k l n true) (TV l n) := by
    intro h
    refine Ev.succ ?_
    simp only [spec_TableValid.j0]
    exact Ev.eq (Ev.pos trivial (Ev.now _)) (TV_no h).symm
  unfold spec_TableValid.f
  by_cases hl : l.length = 15
  · refine Ev.pos (by omega) (Ev.bindc (l1In_eq _ _ _) ?_)
    by_cases hn : 1 ≤ n ∧ n ≤ 6
    · rw [decide_eq_true hn]
      refine Ev.succ ?_
      simp only [spec_TableValid.j0]
      exact Ev.neg (by simp) (specTV_loop l n hn hl 15 0 (by omega) (fun j hj => absurd hj (Nat.not_lt_zero _)))
    · rw [decide_eq_false hn]
      exact no (fun t => hn t.1)
  · exact Ev.neg (by omega) (no (fun t => hl t.2.1))

/-! ### The known stations -/
def knownN (l : List Int) : Nat → List Int
  | 0 => []
  | m + 1 => knownN l m ++ (if rd l (m : Int) ≥ 0 then [(m : Int)] else [])
theorem knownN_len (l : List Int) (m : Nat) : (knownN l m).length ≤ m := by
  induction m with
  | zero => simp [knownN]
  | succ m ih =>
    simp only [knownN, List.length_append]
    split <;> simp <;> omega
def knownI (l : List Int) (n : Int) : List Int := if TVp l n then knownN l 15 else []
theorem knownI_len (l : List Int) (n : Int) : (knownI l n).length ≤ 15 := by
  unfold knownI
  split
  · exact knownN_len l 15
  · simp
/-! ### Learning a port -/
def learnP (l : List Int) (n s p : Int) : Prop := TVp l n ∧ (0 ≤ s ∧ s ≤ 14) ∧ (0 ≤ p ∧ p ≤ n - 1)
instance (l : List Int) (n s p : Int) : Decidable (learnP l n s p) := by unfold learnP; infer_instance
def learnI (l : List Int) (n s p : Int) : List Int × Bool := if learnP l n s p then (l.set s.toNat p, true) else ([], false)
theorem learnI_yes {l : List Int} {n s p : Int} (h : learnP l n s p) : learnI l n s p = (l.set s.toNat p, true) := if_pos h
theorem learnI_no {l : List Int} {n s p : Int} (h : ¬ learnP l n s p) : learnI l n s p = ([], false) := if_neg h
theorem learnI_len (l : List Int) (n s p : Int) : (learnI l n s p).1.length ≤ 15 := by
  by_cases h : learnP l n s p
  · rw [learnI_yes h, List.length_set, h.1.2.1]
    omega
  · rw [learnI_no h]
    simp
theorem implLearn (l : List Int) (n s p : Int) : impl_LearnPort.f l n s p = some (learnI l n s p) := by
  unfold impl_LearnPort.f
  rw [implTV, Option.bind_some]
  by_cases h : TVp l n
  · have hl := h.2.1
    have hn := h.1
    rw [if_pos (show TV l n = true from decide_eq_true h), isStation_eq, Option.bind_some]
    by_cases hs : 0 ≤ s ∧ s ≤ 14
    · rw [if_pos (decide_eq_true hs), within_eq, Option.bind_some, w64 (x := n - 1) (by omega) (by omega)]
      by_cases hp : 0 ≤ p ∧ p ≤ n - 1
      · rw [if_pos (decide_eq_true hp), learnI_yes ⟨h, hs, hp⟩]
        unfold slices_Clone_int_int.f
        rw [if_pos (by omega), Option.bind_some, if_pos hs.1, if_pos (by omega)]
      · rw [if_neg (by simpa using hp), learnI_no (fun e => hp e.2.2)]
    · rw [if_neg (by simpa using hs), learnI_no (fun e => hs e.2.1)]
  · rw [if_neg (by rw [TV_no h]; exact Bool.false_ne_true), learnI_no (fun e => h e.1)]
theorem specLearn6 (l : List Int) (s p : Int) (hl : l.length = 15) (hs : 0 ≤ s ∧ s ≤ 14) : spec_l6Learn.f l s p = some (l.set s.toNat p) := by
  unfold spec_l6Learn.f
  rw [Option.bind_some, if_pos (by simp [hl]), Option.bind_some, if_pos hs.1, List.nil_append, if_pos (by omega)]
theorem specLearn (l : List Int) (n s p : Int) : Ev (fun k => spec_LearnPort.f k l n s p) (learnI l n s p) := by
  unfold spec_LearnPort.f
  refine Ev.bind (specTV l n) ?_
  by_cases h : TVp l n
  · have hl := h.2.1
    have hn := h.1
    refine Ev.pos (decide_eq_true h) (Ev.bindc (l1In_eq _ _ _) ?_)
    by_cases hs : 0 ≤ s ∧ s ≤ 14
    · refine Ev.pos (decide_eq_true hs) (Ev.bindc (l1In_eq _ _ _) ?_)
      rw [w64 (x := n - 1) (by omega) (by omega)]
      by_cases hp : 0 ≤ p ∧ p ≤ n - 1
      · exact Ev.eq (Ev.pos (decide_eq_true hp) (Ev.bindc (specLearn6 l s p hl hs) (Ev.now _))) (learnI_yes ⟨h, hs, hp⟩).symm
      · exact Ev.eq (Ev.neg (by simpa using hp) (Ev.now _)) (learnI_no (fun e => hp e.2.2)).symm
    · exact Ev.eq (Ev.neg (by simpa using hs) (Ev.now _)) (learnI_no (fun e => hs e.2.1)).symm
  · exact Ev.eq (Ev.neg (by rw [TV_no h]; exact Bool.false_ne_true) (Ev.now _)) (learnI_no (fun e => h e.1)).symm
theorem learn_TV {l : List Int} {n s p : Int} (h : learnP l n s p) : TVp (l.set s.toNat p) n := by
  refine ⟨h.1.1, by rw [List.length_set]; exact h.1.2.1, fun x hx => ?_⟩
  rcases List.mem_or_eq_of_mem_set hx with hx | hx
  · exact h.1.2.2 x hx
  · have := h.2.2
    omega

/-! ### The ports for a destination -/
def portsN (p x : Int) : Nat → List Int
  | 0 => []
  | m + 1 => portsN p x m ++ (if (m : Int) = p then [] else if x < 0 ∨ x = (m : Int) then [(m : Int)] else [])
theorem portsN_len (p x : Int) (m : Nat) : (portsN p x m).length ≤ m := by
  induction m with
  | zero => simp [portsN]
  | succ m ih =>
    simp only [portsN, List.length_append]
    split
    · simp; omega
    · split <;> simp <;> omega
theorem portsN_one (p x : Int) (hx : 0 ≤ x) (m : Nat) : portsN p x m = if x ≠ p ∧ x < (m : Int) then [x] else [] := by
  induction m with
  | zero => rw [if_neg (by omega)]; rfl
  | succ m ih =>
    simp only [portsN]
    rw [ih]
    by_cases h1 : (m : Int) = p
    · rw [if_pos h1, List.append_nil]
      by_cases h2 : x ≠ p ∧ x < (m : Int)
      · rw [if_pos h2, if_pos (by omega)]
      · rw [if_neg h2, if_neg (by omega)]
    · rw [if_neg h1]
      by_cases h2 : x = (m : Int)
      · rw [if_neg (by omega), if_pos (by omega), if_pos (by omega), h2]
        rfl
      · rw [show (if x < 0 ∨ x = (m : Int) then [(m : Int)] else []) = [] from if_neg (by omega), List.append_nil]
        by_cases h3 : x ≠ p ∧ x < (m : Int)
        · rw [if_pos h3, if_pos (by omega)]
        · rw [if_neg h3, if_neg (by omega)]
def portsP (l : List Int) (n d p : Int) : Prop := TVp l n ∧ (0 ≤ d ∧ d ≤ 15) ∧ (0 ≤ p ∧ p ≤ n - 1)
instance (l : List Int) (n d p : Int) : Decidable (portsP l n d p) := by unfold portsP; infer_instance
def wayI (l : List Int) (d : Int) : Int := if d < 15 then rd l d else -1
def portsI (l : List Int) (n d p : Int) : List Int := if portsP l n d p then portsN p (wayI l d) n.toNat else []
theorem portsI_yes {l : List Int} {n d p : Int} (h : portsP l n d p) : portsI l n d p = portsN p (wayI l d) n.toNat := if_pos h
theorem portsI_no {l : List Int} {n d p : Int} (h : ¬ portsP l n d p) : portsI l n d p = [] := if_neg h
theorem portsI_len (l : List Int) (n d p : Int) : (portsI l n d p).length ≤ 6 := by
  by_cases h : portsP l n d p
  · rw [portsI_yes h]
    have := portsN_len p (wayI l d) n.toNat
    have := h.1.1
    omega
  · rw [portsI_no h]
    simp
theorem wayI_range {l : List Int} {n d p : Int} (h : portsP l n d p) : -1 ≤ wayI l d ∧ wayI l d ≤ n - 1 := by
  unfold wayI
  have hn := h.1.1
  by_cases hd : d < 15
  · rw [if_pos hd]
    exact TV_rd h.1 d h.2.1.1 hd
  · rw [if_neg hd]
    omega
theorem specPorts_loop (p x : Int) (n : Nat) (hn : n ≤ 6) (d : Nat) : ∀ i : Nat, i + d = n → Ev (fun k => spec_PortsFor.l0 k (n : Int) p (portsN p x i) x (i : Int)) (portsN p x n) := by
  induction d with
  | zero =>
    intro i hi
    obtain rfl : i = n := by omega
    refine Ev.succ ?_
    simp only [spec_PortsFor.l0]
    exact Ev.neg (by omega) (Ev.now _)
  | succ d ih =>
    intro i hi
    have h2 := ih (i + 1) (by omega)
    have hk := portsN_len p x i
    simp only [portsN] at h2
    refine Ev.succ ?_
    simp only [spec_PortsFor.l0]
    rw [succ_i i (by omega)]
    refine Ev.pos (by omega) ?_
    by_cases h1 : (i : Int) = p
    · rw [if_pos h1, List.append_nil] at h2
      exact Ev.pos h1 h2
    · rw [if_neg h1] at h2
      refine Ev.neg h1 ?_
      by_cases hx : x < 0
      · rw [if_pos (Or.inl hx)] at h2
        exact Ev.pos hx (Ev.pos (by omega) h2)
      · refine Ev.neg hx ?_
        by_cases he : x = (i : Int)
        · rw [if_pos (Or.inr he)] at h2
          exact Ev.pos he (Ev.pos (by omega) h2)
        · rw [if_neg (by omega), List.append_nil] at h2
          exact Ev.neg he h2
theorem specPorts (l : List Int) (n d p : Int) : Ev (fun k => spec_PortsFor.f k l n d p) (portsI l n d p) := by
  have no : ¬ portsP l n d p → Ev (fun k => spec_PortsFor.j0 k l n d p [] true) (portsI l n d p) := by
    intro h
    refine Ev.succ ?_
    simp only [spec_PortsFor.j0]
    exact Ev.eq (Ev.pos trivial (Ev.now _)) (portsI_no h).symm
  unfold spec_PortsFor.f
  refine Ev.bindc (a := []) rfl (Ev.bind (specTV l n) ?_)
  by_cases h : TVp l n
  · have hl := h.2.1
    have hn := h.1
    refine Ev.pos (decide_eq_true h) (Ev.bindc (l1In_eq _ _ _) ?_)
    by_cases hs : 0 ≤ d ∧ d ≤ 15
    · refine Ev.pos (decide_eq_true hs) (Ev.bindc (l1In_eq _ _ _) ?_)
      rw [w64 (x := n - 1) (by omega) (by omega)]
      by_cases hp : 0 ≤ p ∧ p ≤ n - 1
      · rw [decide_eq_true hp, portsI_yes ⟨h, hs, hp⟩]
        obtain ⟨m, rfl⟩ := Int.eq_ofNat_of_zero_le (show 0 ≤ n by omega)
        have hj : ∀ x, Ev (fun k => spec_PortsFor.j1 k (m : Int) p [] x) (portsN p x m) := by
          intro x
          refine Ev.succ ?_
          simp only [spec_PortsFor.j1]
          exact specPorts_loop p x m (by omega) m 0 (by omega)
        refine Ev.succ ?_
        simp only [spec_PortsFor.j0]
        refine Ev.neg (by simp) ?_
        unfold wayI
        by_cases hd : d < 15
        · simp only [if_pos hd]
          exact Ev.pos hs.1 (Ev.pos (by omega) (hj _))
        · simp only [if_neg hd]
          exact hj _
      · rw [decide_eq_false hp]
        exact no (fun e => hp e.2.2)
    · exact Ev.neg (by simpa using hs) (no (fun e => hs e.2.1))
  · exact Ev.neg (by rw [TV_no h]; exact Bool.false_ne_true) (no (fun e => h e.1))
theorem implPorts_loop (p : Int) (n : Nat) (hn : n ≤ 6) (d : Nat) : ∀ i : Nat, i + d = n → Ev (fun k => impl_PortsFor.l0 k p (portsN p (-1) i) (n : Int) (i : Int)) (portsN p (-1) n) := by
  induction d with
  | zero =>
    intro i hi
    obtain rfl : i = n := by omega
    refine Ev.succ ?_
    simp only [impl_PortsFor.l0]
    exact Ev.neg (by omega) (Ev.now _)
  | succ d ih =>
    intro i hi
    have h2 := ih (i + 1) (by omega)
    have hk := portsN_len p (-1) i
    simp only [portsN] at h2
    refine Ev.succ ?_
    simp only [impl_PortsFor.l0]
    rw [succ_i i (by omega)]
    refine Ev.pos (by omega) ?_
    by_cases h1 : (i : Int) = p
    · rw [if_pos h1, List.append_nil] at h2
      exact Ev.pos h1 h2
    · rw [if_neg h1, if_pos (Or.inl (by omega))] at h2
      exact Ev.neg h1 (Ev.pos (by omega) h2)
theorem implPorts (l : List Int) (n d p : Int) : Ev (fun k => impl_PortsFor.f k l n d p) (portsI l n d p) := by
  have no : ¬ portsP l n d p → Ev (fun k => impl_PortsFor.j0 k l n d p true) (portsI l n d p) := by
    intro h
    refine Ev.succ ?_
    simp only [impl_PortsFor.j0]
    exact Ev.eq (Ev.pos trivial (Ev.now _)) (portsI_no h).symm
  unfold impl_PortsFor.f
  refine Ev.bindc (implTV l n) ?_
  by_cases h : TVp l n
  · have hl := h.2.1
    have hn := h.1
    refine Ev.pos (decide_eq_true h) (Ev.bindc (within_eq _ _ _) ?_)
    by_cases hs : 0 ≤ d ∧ d ≤ 15
    · refine Ev.pos (decide_eq_true hs) (Ev.bindc (within_eq _ _ _) ?_)
      rw [w64 (x := n - 1) (by omega) (by omega)]
      by_cases hp : 0 ≤ p ∧ p ≤ n - 1
      · have hw := wayI_range (l := l) (d := d) ⟨h, hs, hp⟩
        rw [decide_eq_true hp, portsI_yes ⟨h, hs, hp⟩]
        obtain ⟨m, rfl⟩ := Int.eq_ofNat_of_zero_le (show 0 ≤ n by omega)
        have hj : ∀ x, -1 ≤ x ∧ x ≤ (m : Int) - 1 → Ev (fun k => impl_PortsFor.j1 k (m : Int) p x) (portsN p x m) := by
          intro x hx
          refine Ev.succ ?_
          simp only [impl_PortsFor.j1]
          by_cases h1 : x = p
          · exact Ev.eq (Ev.pos h1 (Ev.now _)) (by rw [portsN_one p x (by omega), if_neg (fun e => e.1 h1)])
          · refine Ev.neg h1 ?_
            by_cases h2 : x = -1
            · subst h2
              exact Ev.pos rfl (implPorts_loop p m (by omega) m 0 (by omega))
            · exact Ev.eq (Ev.neg h2 (Ev.now _)) (by rw [portsN_one p x (by omega), if_pos ⟨h1, by omega⟩])
        refine Ev.succ ?_
        simp only [impl_PortsFor.j0]
        refine Ev.neg (by simp) ?_
        unfold wayI at hw ⊢
        by_cases hd : d = 15
        · rw [if_neg (by omega)] at hw ⊢
          exact Ev.pos hd (hj _ hw)
        · rw [if_pos (by omega)] at hw ⊢
          exact Ev.neg hd (Ev.pos hs.1 (Ev.pos (by omega) (hj _ hw)))
      · rw [decide_eq_false hp]
        exact no (fun e => hp e.2.2)
    · exact Ev.neg (by simpa using hs) (no (fun e => hs e.2.1))
  · exact Ev.neg (by rw [TV_no h]; exact Bool.false_ne_true) (no (fun e => h e.1))

/-! ### A step -/
def stepI (l : List Int) (n s d p : Int) : List Int × List Int × Bool :=
  if learnP l n s p ∧ (0 ≤ d ∧ d ≤ 15) then (l.set s.toNat p, portsI (l.set s.toNat p) n d p, true) else ([], [], false)
theorem implStep (l : List Int) (n s d p : Int) : Ev (fun k => impl_BridgeStep.f k l n s d p) (stepI l n s d p) := by
  unfold impl_BridgeStep.f
  refine Ev.bindc (implLearn l n s p) ?_
  by_cases h : learnP l n s p
  · rw [learnI_yes h]
    refine Ev.pos rfl (Ev.bindc (within_eq _ _ _) ?_)
    by_cases hd : 0 ≤ d ∧ d ≤ 15
    · exact Ev.eq (Ev.pos (decide_eq_true hd) (Ev.bind (implPorts _ _ _ _) (Ev.now _))) (if_pos ⟨h, hd⟩).symm
    · exact Ev.eq (Ev.neg (by simpa using hd) (Ev.now _)) (if_neg (fun e => hd e.2)).symm
  · rw [learnI_no h]
    exact Ev.eq (Ev.neg Bool.false_ne_true (Ev.now _)) (if_neg (fun e => h e.1)).symm
theorem specStep (l : List Int) (n s d p : Int) : Ev (fun k => spec_BridgeStep.f k l n s d p) (stepI l n s d p) := by
  unfold spec_BridgeStep.f
  refine Ev.bind (specLearn l n s p) ?_
  by_cases h : learnP l n s p
  · rw [learnI_yes h]
    refine Ev.pos rfl (Ev.bindc (l1In_eq _ _ _) ?_)
    by_cases hd : 0 ≤ d ∧ d ≤ 15
    · exact Ev.eq (Ev.pos (decide_eq_true hd) (Ev.bind (specPorts _ _ _ _) (Ev.now _))) (if_pos ⟨h, hd⟩).symm
    · exact Ev.eq (Ev.neg (by simpa using hd) (Ev.now _)) (if_neg (fun e => hd e.2)).symm
  · rw [learnI_no h]
    exact Ev.eq (Ev.neg Bool.false_ne_true (Ev.now _)) (if_neg (fun e => h e.1)).symm

end Go.Proofs.Ytpgiobhpfolinaa.Pure
