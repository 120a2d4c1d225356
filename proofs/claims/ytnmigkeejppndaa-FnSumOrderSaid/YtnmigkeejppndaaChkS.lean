/- What the program's and the reference's sums of data answer, as plain functions of numbers and lists. -/
import Derived.Test.YtnmigkeejppndaaPAllx1
import Derived.Test.YtnmigkeejppndaaPAllx3
import Derived.Test.YtnmigkeejppndaaChkA
namespace Go.Proofs.Ytnmigkeejppndaa.Pure
open Go.RowKit Go.Proofs.Ytnmigkeejppndaa.PAll Go.Proofs.YtnmigkeejppndaaW.PrintWords Go.Proofs.YtnmigkeejppndaaW.PrintLast Go.Proofs.Ytnmigkeejppndaa.Base

/-- Two words added round. -/
def addr (a b : Int) : Int := if a + b > 65535 then a + b - 65535 else a + b
/-- What a total comes to when it is added round. -/
def norm (t : Int) : Int := if t = 0 then 0 else (t - 1) % 65535 + 1
theorem norm_range (t : Int) : 0 ≤ norm t ∧ norm t ≤ 65535 := by unfold norm; split <;> omega
theorem addr_norm (t w : Int) (ht : 0 ≤ t) (hw : 0 ≤ w ∧ w ≤ 65535) : addr (norm t) w = norm (t + w) := by
  unfold addr norm
  split <;> split <;> split <;> omega
theorem addr_range (a b : Int) (ha : 0 ≤ a ∧ a ≤ 65535) (hb : 0 ≤ b ∧ b ≤ 65535) : 0 ≤ addr a b ∧ addr a b ≤ 65535 := by unfold addr; split <;> omega
theorem addr_zero (b : Int) (hb : 0 ≤ b ∧ b ≤ 65535) : addr 0 b = b := by unfold addr; split <;> omega
theorem l2Add_eq (a b : Int) (ha : 0 ≤ a ∧ a ≤ 65535) (hb : 0 ≤ b ∧ b ≤ 65535) : spec_l2Add.f a b = some (addr a b) := by
  unfold spec_l2Add.f addr
  rw [w64 (x := a + b) (by omega) (by omega)]
  by_cases h : a + b > 65535
  · rw [if_pos h, if_pos h, w64 (by omega) (by omega)]
  · rw [if_neg h, if_neg h]
def Words (l : List Int) : Prop := ∀ x ∈ l, 0 ≤ x ∧ x ≤ 65535
theorem round_loop (l : List Int) (hl : l.length ≤ 1000000) (hw : Words l) (d : Nat) : ∀ (i : Nat) (s : Int), i + d = l.length → 0 ≤ s ∧ s ≤ 65535 → Ev (fun k => impl_round.l0 k s l (l.length : Int) (i : Int)) ((l.drop i).foldl addr s) := by
  induction d with
  | zero =>
    intro i s h hs
    refine Ev.next (f := fun _ => some s) (fun k => ?_) (Ev.eq (Ev.now _) ?_)
    · simp only [impl_round.l0]
      rw [if_neg (by omega)]
    · rw [List.drop_of_length_le (by omega)]
      rfl
  | succ d ih =>
    intro i s h hs
    have hi : i < l.length := by omega
    have hx := hw l[i] (List.getElem_mem hi)
    refine Ev.next (f := fun k => impl_round.l0 k (addr s l[i]) l (l.length : Int) ((i + 1 : Nat) : Int)) (fun k => ?_) (Ev.eq (ih (i + 1) _ (by omega) (addr_range _ _ hs hx)) ?_)
    · simp only [impl_round.l0]
      rw [if_pos (by omega), if_pos (by omega), if_pos (by omega), succ_i i (by omega), rd_get l i hi, w64 (x := s + l[i]) (by omega) (by omega)]
      unfold addr
      by_cases h2 : s + l[i] > 65535
      · rw [if_pos h2, if_pos h2, w64 (by omega) (by omega)]
      · rw [if_neg h2, if_neg h2]
    · rw [List.drop_eq_getElem_cons hi]
      rfl
theorem round_ev (l : List Int) (hl : l.length ≤ 1000000) (hw : Words l) : Ev (fun k => impl_round.f k l) (l.foldl addr 0) := by
  unfold impl_round.f
  exact Ev.eq (round_loop l hl hw l.length 0 0 (by omega) (by omega)) (by simp)

/-! ### SumTurned -/
def isWord (a : Int) : Prop := 0 ≤ a ∧ a ≤ 65535
def turnI (s o n : Int) : Int := if (0 ≤ s ∧ s ≤ 65535) ∧ (0 ≤ o ∧ o ≤ 65535) ∧ (0 ≤ n ∧ n ≤ 65535) then 65535 - addr (addr (65535 - s) (65535 - o)) n else -1
theorem implTurned (s o n : Int) : Ev (fun k => impl_SumTurned.f k s o n) (turnI s o n) := by
  unfold impl_SumTurned.f turnI
  by_cases hs : 0 ≤ s ∧ s ≤ 65535
  · refine Ev.bindc (within_eq s _ _) (Ev.pos (decide_eq_true hs) ?_)
    by_cases ho : 0 ≤ o ∧ o ≤ 65535
    · refine Ev.bindc (within_eq o _ _) (Ev.pos (decide_eq_true ho) ?_)
      by_cases hn : 0 ≤ n ∧ n ≤ 65535
      · rw [if_pos ⟨hs, ho, hn⟩, w64 (x := 65535 - s) (by omega) (by omega), w64 (x := 65535 - o) (by omega) (by omega)]
        refine Ev.bindc (within_eq n _ _) (Ev.pos (decide_eq_true hn) (Ev.bind (round_ev _ (by simp) ?_) (Ev.const ?_)))
        · intro x hx
          simp only [List.mem_cons, List.not_mem_nil, or_false] at hx
          rcases hx with rfl | rfl | rfl <;> omega
        · show some (wrap64 (65535 - addr (addr (addr 0 (65535 - s)) (65535 - o)) n)) = _
          have h2 := addr_range (addr (65535 - s) (65535 - o)) n (addr_range _ _ (by omega) (by omega)) hn
          rw [addr_zero _ (by omega), w64 (by omega) (by omega)]
      · rw [if_neg (fun h => hn h.2.2)]
        exact Ev.bindc (within_eq n _ _) (Ev.neg (by simpa using hn) (Ev.now _))
    · rw [if_neg (fun h => ho h.2.1)]
      exact Ev.bindc (within_eq o _ _) (Ev.neg (by simpa using ho) (Ev.now _))
  · rw [if_neg (fun h => hs h.1)]
    exact Ev.bindc (within_eq s _ _) (Ev.neg (by simpa using hs) (Ev.now _))
theorem specTurned (s o n : Int) : Ev (fun k => spec_SumTurned.f k s o n) (turnI s o n) := by
  unfold spec_SumTurned.f turnI
  have no : Ev (fun k => spec_SumTurned.j0 k s o n true) (-1) := Ev.next (f := fun _ => some (-1)) (fun k => by simp only [spec_SumTurned.j0]; rw [if_pos trivial]) (Ev.now _)
  by_cases hs : 0 ≤ s ∧ s ≤ 65535
  · refine Ev.bindc (l2Word_eq s) (Ev.pos (decide_eq_true hs) ?_)
    by_cases ho : 0 ≤ o ∧ o ≤ 65535
    · refine Ev.bindc (l2Word_eq o) (Ev.pos (decide_eq_true ho) ?_)
      by_cases hn : 0 ≤ n ∧ n ≤ 65535
      · rw [if_pos ⟨hs, ho, hn⟩]
        refine Ev.bindc (l2Word_eq n) ?_
        rw [decide_eq_true hn]
        refine Ev.next (f := fun _ => some (65535 - addr (addr (65535 - s) (65535 - o)) n)) (fun k => ?_) (Ev.now _)
        simp only [spec_SumTurned.j0]
        have h1 := addr_range (65535 - s) (65535 - o) (by omega) (by omega)
        have h2 := addr_range (addr (65535 - s) (65535 - o)) n h1 hn
        rw [if_neg (by simp), w64 (x := 65535 - s) (by omega) (by omega), w64 (x := 65535 - o) (by omega) (by omega), l2Add_eq _ _ (by omega) (by omega), Option.bind_some, l2Add_eq _ _ h1 hn, Option.bind_some, w64 (by omega) (by omega)]
      · rw [if_neg (fun h => hn h.2.2)]
        refine Ev.bindc (l2Word_eq n) ?_
        rw [decide_eq_false hn]
        exact no
    · rw [if_neg (fun h => ho h.2.1)]
      exact Ev.bindc (l2Word_eq o) (Ev.neg (by simpa using ho) no)
  · rw [if_neg (fun h => hs h.1)]
    exact Ev.bindc (l2Word_eq s) (Ev.neg (by simpa using hs) no)

/-! ### SumOf -/
/-- The words of data, added without end. -/
def tot : List Int → Int
  | [] => 0
  | [a] => a * 256
  | a :: b :: r => a * 256 + b + tot r
theorem tot_nonneg : ∀ (l : List Int), Bytes l → 0 ≤ tot l
  | [], _ => by simp [tot]
  | [a], h => by have := h a (by simp); simp only [tot]; omega
  | a :: b :: r, h => by
    have h1 := h a (by simp)
    have h2 := h b (by simp)
    have := tot_nonneg r (fun x hx => h x (by simp [hx]))
    simp only [tot]
    omega
theorem tot_append : ∀ (l m : List Int), l.length % 2 = 0 → tot (l ++ m) = tot l + tot m
  | [], m, _ => by simp [tot]
  | [a], m, h => by simp at h
  | a :: b :: r, m, h => by
    have := tot_append r m (by simp at h; omega)
    simp only [List.cons_append, tot, this]
    omega
theorem tot_snoc : ∀ (l : List Int) (x : Int), tot (l ++ [x]) = tot l + (if l.length % 2 = 0 then x * 256 else x)
  | [], x => by simp [tot]
  | [a], x => by simp [tot]
  | a :: b :: r, x => by
    have := tot_snoc r x
    simp only [List.cons_append, tot, this, List.length_cons]
    by_cases hp : r.length % 2 = 0
    · rw [if_pos hp, if_pos (by omega)]
      omega
    · rw [if_neg hp, if_neg (by omega)]
      omega
theorem tot_take (l : List Int) (i : Nat) (hi : i < l.length) : tot (l.take (i + 1)) = tot (l.take i) + (if i % 2 = 0 then rd l (i : Int) * 256 else rd l (i : Int)) := by
  rw [List.take_succ_eq_append_getElem hi, tot_snoc, rd_get l i hi]
  have : (l.take i).length = i := by rw [List.length_take]; omega
  rw [this]
def sumI (l : List Int) : Int := if l.length ≤ 600 then 65535 - norm (tot l) else -1
theorem shl_8 (x : Int) (hx : 0 ≤ x ∧ x < 256) : shl .i64 x 8 = x * 256 := by
  unfold shl
  rw [show min (8 : Int).toNat (IntKind.bits .i64) = 8 by decide, show (2 : Int) ^ 8 = 256 by decide]
  exact wrapI _ (by omega) (by omega)
theorem shl_0 (x : Int) (hx : 0 ≤ x ∧ x < 256) : shl .i64 x 0 = x := by
  unfold shl
  rw [show min (0 : Int).toNat (IntKind.bits .i64) = 0 by decide, show (2 : Int) ^ 0 = 1 by decide]
  rw [wrapI _ (by omega) (by omega)]
  omega
theorem implSum_loop (l : List Int) (hb : Bytes l) (hl : l.length ≤ 1000000) (d : Nat) : ∀ (i : Nat), i + d = l.length → Ev (fun k => impl_SumOf.l0 k (norm (tot (l.take i))) l (l.length : Int) (i : Int)) (65535 - norm (tot l)) := by
  induction d with
  | zero =>
    intro i h
    have hr := norm_range (tot l)
    refine Ev.next (f := fun _ => some (65535 - norm (tot l))) (fun k => ?_) (Ev.now _)
    simp only [impl_SumOf.l0]
    rw [if_neg (by omega), List.take_of_length_le (by omega), w64 (by omega) (by omega)]
  | succ d ih =>
    intro i h
    have hi : i < l.length := by omega
    have hr := norm_range (tot (l.take i))
    have hx := hb.at_ (i : Int)
    have ht := tot_nonneg _ (hb.take i)
    have e2 : Int.tmod (i : Int) 2 = ((i % 2 : Nat) : Int) := by rw [Int.tmod_eq_emod_of_nonneg (by omega)]; omega
    obtain ⟨w, hw⟩ : ∃ w, w = (if i % 2 = 0 then rd l (i : Int) * 256 else rd l (i : Int)) := ⟨_, rfl⟩
    have hwb : 0 ≤ w ∧ w ≤ 65535 := by rw [hw]; split <;> omega
    have hsh : wrap64 (8 - (wrap64 ((Int.tmod (i : Int) 2) * 8))) = ((8 - i % 2 * 8 : Nat) : Int) := by
      rw [e2, w64 (x := ((i % 2 : Nat) : Int) * 8) (by omega) (by omega), w64 (by omega) (by omega)]
      omega
    have hsh2 : shl .i64 (wrap64 (rd l (i : Int))) ((8 - i % 2 * 8 : Nat) : Int) = w := by
      rw [w64 (x := rd l (i : Int)) (by omega) (by omega), hw]
      by_cases hp : i % 2 = 0
      · rw [if_pos hp, hp]
        exact shl_8 _ hx
      · rw [if_neg hp, show i % 2 = 1 by omega]
        exact shl_0 _ hx
    refine Ev.next (f := fun k => (impl_round.f k [norm (tot (l.take i)), w]).bind fun t => impl_SumOf.l0 k t l (l.length : Int) ((i + 1 : Nat) : Int)) (fun k => ?_) (Ev.bind (round_ev _ (by simp) ?_) ?_)
    · simp only [impl_SumOf.l0]
      rw [hsh, hsh2, if_pos (by omega), if_pos (by omega), if_pos (by omega), if_pos (by omega), succ_i i (by omega)]
    · intro x hx
      simp only [List.mem_cons, List.not_mem_nil, or_false] at hx
      rcases hx with rfl | rfl <;> omega
    · have e : [norm (tot (l.take i)), w].foldl addr 0 = norm (tot (l.take (i + 1))) := by
        show addr (addr 0 _) w = _
        rw [addr_zero _ hr, addr_norm _ _ ht hwb, tot_take l i hi, hw]
      rw [e]
      exact ih (i + 1) (by omega)
theorem specSum_loop (l : List Int) (hb : Bytes l) (hl : l.length ≤ 1000000) (d : Nat) : ∀ (i : Nat), i % 2 = 0 → (l.length + 1 - i) / 2 = d → i ≤ l.length + 1 → Ev (fun k => spec_SumOf.l0 k l (norm (tot (l.take i))) (i : Int)) (65535 - norm (tot l)) := by
  induction d with
  | zero =>
    intro i hp h h3
    have hr := norm_range (tot l)
    refine Ev.next (f := fun _ => some (65535 - norm (tot l))) (fun k => ?_) (Ev.now _)
    simp only [spec_SumOf.l0]
    rw [if_neg (by omega), List.take_of_length_le (by omega), w64 (by omega) (by omega)]
  | succ d ih =>
    intro i hp h h3
    have hi : i < l.length := by omega
    have hr := norm_range (tot (l.take i))
    have hx := hb.at_ (i : Int)
    have ht := tot_nonneg _ (hb.take i)
    have e2 : wrap64 ((i : Int) + 2) = ((i + 2 : Nat) : Int) := by rw [w64 (by omega) (by omega)]; omega
    have t1 := tot_take l i hi
    rw [if_pos hp] at t1
    by_cases h1 : i + 1 < l.length
    · have hy := hb.at_ ((i + 1 : Nat) : Int)
      have t2 := tot_take l (i + 1) h1
      rw [if_neg (by omega), t1] at t2
      refine Ev.next (f := fun k => spec_SumOf.l0 k l (norm (tot (l.take (i + 2)))) ((i + 2 : Nat) : Int)) (fun k => ?_) (ih (i + 2) (by omega) (by omega) (by omega))
      simp only [spec_SumOf.l0]
      rw [if_pos (by omega), if_pos (by omega), succ_i i (by omega), if_pos (by omega), if_pos (by omega), e2, w64 (x := rd l (i : Int)) (by omega) (by omega), w64 (x := rd l ((i + 1 : Nat) : Int)) (by omega) (by omega), w64 (x := rd l (i : Int) * 256) (by omega) (by omega), w64 (x := rd l (i : Int) * 256 + rd l ((i + 1 : Nat) : Int)) (by omega) (by omega), l2Add_eq _ _ hr (by omega), Option.bind_some, addr_norm _ _ ht (by omega)]
      rw [show i + 2 = i + 1 + 1 by omega, t2, Int.add_assoc]
    · refine Ev.next (f := fun k => spec_SumOf.l0 k l (norm (tot (l.take (i + 2)))) ((i + 2 : Nat) : Int)) (fun k => ?_) (ih (i + 2) (by omega) (by omega) (by omega))
      simp only [spec_SumOf.l0]
      rw [if_pos (by omega), if_pos (by omega), succ_i i (by omega), if_neg (by omega), e2, w64 (x := rd l (i : Int)) (by omega) (by omega), w64 (x := rd l (i : Int) * 256) (by omega) (by omega), l2Add_eq _ _ hr (by omega), Option.bind_some, addr_norm _ _ ht (by omega)]
      rw [← t1, List.take_of_length_le (show l.length ≤ i + 1 by omega), List.take_of_length_le (show l.length ≤ i + 2 by omega)]
theorem implSum (l : List Int) (hb : Bytes l) : Ev (fun k => impl_SumOf.f k l) (sumI l) := by
  unfold impl_SumOf.f sumI
  refine Ev.bindc (isData_eq l) ?_
  by_cases h : l.length ≤ 600
  · rw [if_pos h]
    exact Ev.pos (decide_eq_true h) (implSum_loop l hb (by omega) l.length 0 (by omega))
  · rw [if_neg h]
    exact Ev.neg (by simpa using h) (Ev.now _)
theorem specSum (l : List Int) (hb : Bytes l) : Ev (fun k => spec_SumOf.f k l) (sumI l) := by
  unfold spec_SumOf.f sumI
  refine Ev.bindc (l1Data_eq l) ?_
  by_cases h : l.length ≤ 600
  · rw [if_pos h]
    exact Ev.pos (decide_eq_true h) (specSum_loop l hb (by omega) ((l.length + 1) / 2) 0 (by omega) (by omega) (by omega))
  · rw [if_neg h]
    exact Ev.neg (by simpa using h) (Ev.now _)
theorem sumI_range (l : List Int) : -1 ≤ sumI l ∧ sumI l ≤ 65535 := by
  unfold sumI
  have := norm_range (tot l)
  split <;> omega
def rightI (l : List Int) : Bool := decide (sumI l = 0)
theorem implRight (l : List Int) (hb : Bytes l) : Ev (fun k => impl_SumRight.f k l) (rightI l) := by
  unfold impl_SumRight.f rightI
  refine Ev.bindc (isData_eq l) ?_
  by_cases h : l.length ≤ 600
  · refine Ev.pos (decide_eq_true h) (Ev.bind (implSum l hb) (Ev.eq (Ev.now _) ?_))
    cases e : decide (sumI l = 0) <;> simp_all
  · refine Ev.neg (by simpa using h) (Ev.eq (Ev.now _) ?_)
    unfold sumI
    rw [if_neg h]
    rfl
theorem specRight (l : List Int) (hb : Bytes l) : Ev (fun k => spec_SumRight.f k l) (rightI l) := by
  unfold spec_SumRight.f rightI
  refine Ev.bind (specSum l hb) (Ev.eq (Ev.now _) ?_)
  cases e : decide (sumI l = 0) <;> simp_all

end Go.Proofs.Ytnmigkeejppndaa.Pure
