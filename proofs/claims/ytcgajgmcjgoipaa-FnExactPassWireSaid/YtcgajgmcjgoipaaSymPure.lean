/-
  What rotations, exchanges and merges of sorted parts come to, in plain Lean, with no program in sight.
  Runs of one length, each sorted: laid one by one, then merged two and two, in plain Lean.
-/
import Derived.Sort.LotA
namespace Go.Proofs.Ytcgajgmcjgoipaa.Stab
open Go.Sort
variable {α : Type} [Inhabited α] {lt : α → α → Bool}

/-- Where a rotation of [a, m) and [m, b) takes its elements from. -/
def rotf (a m b i : Nat) : Nat := if i < a then i else if i < a + (b - m) then i + (m - a) else if i < b then i - (b - m) else i

/-- Where an exchange of two disjoint stretches takes its elements from. -/
def sidx (a b n i : Nat) : Nat := if a ≤ i ∧ i < a + n then i - a + b else if b ≤ i ∧ i < b + n then i - b + a else i

/-- d' is d with its parts [a, m) and [m, b) turned about. -/
def RotEq (a m b : Nat) (d d' : Array α) : Prop := d'.size = d.size ∧ ∀ i, d'[i]! = d[rotf a m b i]!

/-- Two disjoint stretches exchanged. -/
def swpR (a b : Nat) : Nat → Array α → Array α
  | 0, d => d
  | n + 1, d => swp (swpR a b n d) (a + n) (b + n)

theorem size_swpR (a b n : Nat) (d : Array α) : (swpR a b n d).size = d.size := by
  induction n with
  | zero => rfl
  | succ n ih => rw [swpR, swp_size, ih]

theorem swpR_get (a b n : Nat) (d : Array α) (hab : a + n ≤ b) (hb : b + n ≤ d.size) (i : Nat) : (swpR a b n d)[i]! = d[sidx a b n i]! := by
  induction n generalizing i with
  | zero => simp only [swpR, sidx]; rw [if_neg (by omega), if_neg (by omega)]
  | succ n ih =>
    rw [swpR, swp_get _ (by rw [size_swpR]; omega) (by rw [size_swpR]; omega), ih (by omega) (by omega), ih (by omega) (by omega), ih (by omega) (by omega)]
    unfold sidx
    by_cases h1 : i = b + n
    · subst h1
      rw [if_pos rfl, if_neg (by omega), if_neg (by omega), if_neg (by omega), if_pos (by omega)]
      congr 1; omega
    · rw [if_neg h1]
      by_cases h2 : i = a + n
      · subst h2
        rw [if_pos rfl, if_neg (by omega), if_neg (by omega), if_pos (by omega)]
        congr 1; omega
      · rw [if_neg h2]
        by_cases h3 : a ≤ i ∧ i < a + n
        · rw [if_pos h3, if_pos (by omega)]
        · rw [if_neg h3, if_neg (show ¬(a ≤ i ∧ i < a + (n + 1)) by omega)]
          by_cases h4 : b ≤ i ∧ i < b + n
          · rw [if_pos h4, if_pos (by omega)]
          · rw [if_neg h4, if_neg (by omega)]

theorem swpR_permIn (lo hi a b n : Nat) (d : Array α) (h1 : lo ≤ a) (h2 : a + n ≤ hi) (h3 : lo ≤ b) (h4 : b + n ≤ hi) (hs : hi ≤ d.size) : PermIn lo hi d (swpR a b n d) := by
  induction n with
  | zero => exact permIn_refl _ _ _
  | succ n ih =>
    have := ih (by omega) (by omega)
    refine permIn_trans _ _ _ _ _ this ?_
    exact swp_permIn _ _ _ _ _ (by omega) (by omega) (by omega) (by omega) (by rw [size_swpR]; omega)

theorem rotEq_self (a m b : Nat) (d : Array α) (h : (a = m ∧ m ≤ b) ∨ (a ≤ m ∧ m = b)) : RotEq a m b d d := by
  refine ⟨rfl, fun i => ?_⟩
  congr 1
  unfold rotf
  repeat' split
  all_goals omega

/-- A round of the rotation where the left part is the longer. -/
theorem rot_left {m i j : Nat} {d r : Array α} (hji : j < i) (him : i ≤ m) (hm : m + j ≤ d.size) (h : RotEq (m - (i - j)) m (m + j) (swpR (m - i) m j d) r) : RotEq (m - i) m (m + j) d r := by
  refine ⟨by rw [h.1, size_swpR], fun x => ?_⟩
  rw [h.2, swpR_get _ _ _ _ (by omega) hm]
  congr 1
  unfold rotf sidx
  repeat' split
  all_goals omega

/-- A round of the rotation where the right part is the longer. -/
theorem rot_right {m i j : Nat} {d r : Array α} (hij : i < j) (him : i ≤ m) (hm : m + j ≤ d.size) (h : RotEq (m - i) m (m + (j - i)) (swpR (m - i) (m + j - i) i d) r) : RotEq (m - i) m (m + j) d r := by
  refine ⟨by rw [h.1, size_swpR], fun x => ?_⟩
  rw [h.2, swpR_get _ _ _ _ (by omega) (by omega)]
  congr 1
  unfold rotf sidx
  repeat' split
  all_goals omega

/-- The last round: both parts are as long. -/
theorem rot_even {m i : Nat} {d : Array α} (him : i ≤ m) (hm : m + i ≤ d.size) : RotEq (m - i) m (m + i) d (swpR (m - i) m i d) := by
  refine ⟨by rw [size_swpR], fun x => ?_⟩
  rw [swpR_get _ _ _ _ (by omega) (by omega)]
  congr 1
  unfold rotf sidx
  repeat' split
  all_goals omega

/-- One element taken a place further to the right. -/
theorem rot_one_right {a k : Nat} {d dk : Array α} (hak : a ≤ k) (hk : k + 1 < d.size) (h : RotEq a (a + 1) (k + 1) d dk) : RotEq a (a + 1) (k + 2) d (swp dk k (k + 1)) := by
  refine ⟨by rw [swp_size, h.1], fun x => ?_⟩
  have hs := h.1
  rw [swp_get _ (by omega) (by omega), h.2, h.2, h.2]
  by_cases h1 : x = k + 1
  · rw [if_pos h1]; congr 1; unfold rotf; (repeat' split) <;> omega
  · rw [if_neg h1]
    by_cases h2 : x = k
    · rw [if_pos h2]; congr 1; unfold rotf; (repeat' split) <;> omega
    · rw [if_neg h2]; congr 1; unfold rotf; (repeat' split) <;> omega

/-- One element taken a place further to the left. -/
theorem rot_one_left {m k : Nat} {d dk : Array α} (hkm : k < m) (hm : m < d.size) (h : RotEq (k + 1) m (m + 1) d dk) : RotEq k m (m + 1) d (swp dk (k + 1) k) := by
  refine ⟨by rw [swp_size, h.1], fun x => ?_⟩
  have hs := h.1
  rw [swp_get _ (by omega) (by omega), h.2, h.2, h.2]
  by_cases h1 : x = k
  · rw [if_pos h1]; congr 1; unfold rotf; (repeat' split) <;> omega
  · rw [if_neg h1]
    by_cases h2 : x = k + 1
    · rw [if_pos h2]; congr 1; unfold rotf; (repeat' split) <;> omega
    · rw [if_neg h2]; congr 1; unfold rotf; (repeat' split) <;> omega

/-! ### Sorted parts -/
theorem sorted_le (hO : SWO lt) {a b : Nat} {d : Array α} (h : SortedIn lt a b d) {i j : Nat} (hai : a ≤ i) (hij : i ≤ j) (hj : j < b) : lt d[j]! d[i]! = false := by
  by_cases e : i = j
  · subst e; exact hO.irrefl _
  · exact h i j hai (by omega) hj

/-- Two sorted parts, none of the right less than one of the left: sorted. -/
theorem sorted_join {a m b : Nat} {d : Array α} (h1 : SortedIn lt a m d) (h2 : SortedIn lt m b d) (h : ∀ x y, a ≤ x → x < m → m ≤ y → y < b → lt d[y]! d[x]! = false) : SortedIn lt a b d := by
  intro i j hai hij hj
  by_cases hm : j < m
  · exact h1 i j hai hij hm
  · by_cases hi : i < m
    · exact h i j hai hi (by omega) hj
    · exact h2 i j (by omega) hij hj

theorem sorted_congr {a b : Nat} {d d' : Array α} (h : SortedIn lt a b d) (he : ∀ p, a ≤ p → p < b → d'[p]! = d[p]!) : SortedIn lt a b d' := by
  intro i j hai hij hj
  rw [he i hai (by omega), he j (by omega) hj]
  exact h i j hai hij hj

/-- symMerge's first short way: the left part is one element; i is its place among the others. -/
theorem merge_first (hO : SWO lt) {a i b : Nat} {d d' : Array α} (hai : a + 1 ≤ i) (hib : i ≤ b) (h2 : SortedIn lt (a + 1) b d)
    (hl : i = a + 1 ∨ lt d[i - 1]! d[a]! = true) (hr : i = b ∨ lt d[i]! d[a]! = false) (h : RotEq a (a + 1) i d d') : SortedIn lt a b d' := by
  have hx : ∀ p, a + 1 ≤ p → p < i → lt d[a]! d[p]! = false := fun p h3 h4 => by
    have h5 := hl.resolve_left (by omega)
    exact hO.ntrans _ _ _ (hO.asymmA h5) (sorted_le hO h2 h3 (show p ≤ i - 1 by omega) (by omega))
  have hy : ∀ p, i ≤ p → p < b → lt d[p]! d[a]! = false := fun p h3 h4 =>
    hO.ntrans _ _ _ (sorted_le hO h2 (show a + 1 ≤ i by omega) h3 h4) (hr.resolve_left (by omega))
  intro p q hap hpq hqb
  rw [h.2, h.2]
  by_cases q1 : q < i - 1
  · rw [show rotf a (a + 1) i q = q + 1 by unfold rotf; (repeat' split) <;> omega, show rotf a (a + 1) i p = p + 1 by unfold rotf; (repeat' split) <;> omega]
    exact h2 _ _ (by omega) (by omega) (by omega)
  · by_cases q2 : q = i - 1
    · rw [show rotf a (a + 1) i q = a by unfold rotf; (repeat' split) <;> omega, show rotf a (a + 1) i p = p + 1 by unfold rotf; (repeat' split) <;> omega]
      exact hx _ (by omega) (by omega)
    · rw [show rotf a (a + 1) i q = q by unfold rotf; (repeat' split) <;> omega]
      by_cases p1 : p < i - 1
      · rw [show rotf a (a + 1) i p = p + 1 by unfold rotf; (repeat' split) <;> omega]
        exact h2 _ _ (by omega) (by omega) (by omega)
      · by_cases p2 : p = i - 1
        · rw [show rotf a (a + 1) i p = a by unfold rotf; (repeat' split) <;> omega]
          exact hy _ (by omega) hqb
        · rw [show rotf a (a + 1) i p = p by unfold rotf; (repeat' split) <;> omega]
          exact h2 _ _ (by omega) (by omega) hqb

/-- symMerge's second short way: the right part is one element; i is its place among the others. -/
theorem merge_last (hO : SWO lt) {a i m : Nat} {d d' : Array α} (hai : a ≤ i) (him : i ≤ m) (h1 : SortedIn lt a m d)
    (hl : i = a ∨ lt d[m]! d[i - 1]! = false) (hr : i = m ∨ lt d[m]! d[i]! = true) (h : RotEq i m (m + 1) d d') : SortedIn lt a (m + 1) d' := by
  have hx : ∀ p, a ≤ p → p < i → lt d[m]! d[p]! = false := fun p h3 h4 =>
    hO.ntrans _ _ _ (hl.resolve_left (by omega)) (sorted_le hO h1 h3 (show p ≤ i - 1 by omega) (by omega))
  have hy : ∀ p, i ≤ p → p < m → lt d[p]! d[m]! = false := fun p h3 h4 =>
    hO.ntrans _ _ _ (sorted_le hO h1 (show a ≤ i by omega) h3 h4) (hO.asymmA (hr.resolve_left (by omega)))
  intro p q hap hpq hqb
  rw [h.2, h.2]
  by_cases q1 : q < i
  · rw [show rotf i m (m + 1) q = q by unfold rotf; (repeat' split) <;> omega, show rotf i m (m + 1) p = p by unfold rotf; (repeat' split) <;> omega]
    exact h1 _ _ (by omega) (by omega) (by omega)
  · by_cases q2 : q = i
    · rw [show rotf i m (m + 1) q = m by unfold rotf; (repeat' split) <;> omega, show rotf i m (m + 1) p = p by unfold rotf; (repeat' split) <;> omega]
      exact hx _ (by omega) (by omega)
    · rw [show rotf i m (m + 1) q = q - 1 by unfold rotf; (repeat' split) <;> omega]
      by_cases p1 : p < i
      · rw [show rotf i m (m + 1) p = p by unfold rotf; (repeat' split) <;> omega]
        exact h1 _ _ (by omega) (by omega) (by omega)
      · by_cases p2 : p = i
        · rw [show rotf i m (m + 1) p = m by unfold rotf; (repeat' split) <;> omega]
          exact hy _ (by omega) (by omega)
        · rw [show rotf i m (m + 1) p = p - 1 by unfold rotf; (repeat' split) <;> omega]
          exact h1 _ _ (by omega) (by omega) (by omega)

/-- Behind the rotation: the four parts, and none of the right half less than one of the left half. -/
theorem sym_halves (hO : SWO lt) {a m b mid s e : Nat} {d d' : Array α} (has : a ≤ s) (hsm : s ≤ m) (hme : m ≤ e) (heb : e ≤ b) (hmid : mid = s + (e - m))
    (h1 : SortedIn lt a m d) (h2 : SortedIn lt m b d) (hl : s = a ∨ e = b ∨ lt d[e]! d[s - 1]! = false) (hr : s = m ∨ e = m ∨ lt d[e - 1]! d[s]! = true) (h : RotEq s m e d d') :
    SortedIn lt a s d' ∧ SortedIn lt s mid d' ∧ SortedIn lt mid e d' ∧ SortedIn lt e b d' ∧ ∀ x y, a ≤ x → x < mid → mid ≤ y → y < b → lt d'[y]! d'[x]! = false := by
  have r1 : ∀ p, p < s → d'[p]! = d[p]! := fun p hp => by rw [h.2]; congr 1; unfold rotf; (repeat' split) <;> omega
  have r2 : ∀ p, s ≤ p → p < mid → d'[p]! = d[p + (m - s)]! := fun p hp hq => by rw [h.2]; congr 1; unfold rotf; (repeat' split) <;> omega
  have r3 : ∀ p, mid ≤ p → p < e → d'[p]! = d[p - (e - m)]! := fun p hp hq => by rw [h.2]; congr 1; unfold rotf; (repeat' split) <;> omega
  have r4 : ∀ p, e ≤ p → d'[p]! = d[p]! := fun p hp => by rw [h.2]; congr 1; unfold rotf; (repeat' split) <;> omega
  refine ⟨fun i j hi hij hj => ?_, fun i j hi hij hj => ?_, fun i j hi hij hj => ?_, fun i j hi hij hj => ?_, fun x y hx hxm hy hyb => ?_⟩
  · rw [r1 i (by omega), r1 j hj]; exact h1 _ _ hi hij (by omega)
  · rw [r2 i hi (by omega), r2 j (by omega) hj]; exact h2 _ _ (by omega) (by omega) (by omega)
  · rw [r3 i hi (by omega), r3 j (by omega) hj]; exact h1 _ _ (by omega) (by omega) (by omega)
  · rw [r4 i hi, r4 j (by omega)]; exact h2 _ _ (by omega) (by omega) (by omega)
  · by_cases x1 : x < s
    · rw [r1 x x1]
      by_cases y1 : y < e
      · rw [r3 y hy y1]; exact h1 _ _ hx (by omega) (by omega)
      · rw [r4 y (by omega)]
        have hc := (hl.resolve_left (by omega)).resolve_left (by omega)
        exact hO.ntrans _ _ _ (sorted_le hO h2 (show m ≤ e by omega) (show e ≤ y by omega) hyb) (hO.ntrans _ _ _ hc (sorted_le hO h1 hx (show x ≤ s - 1 by omega) (by omega)))
    · rw [r2 x (by omega) hxm]
      by_cases y1 : y < e
      · rw [r3 y hy y1]
        have hc := hO.asymmA ((hr.resolve_left (by omega)).resolve_left (by omega))
        exact hO.ntrans _ _ _ (sorted_le hO h1 (show a ≤ s by omega) (show s ≤ y - (e - m) by omega) (by omega)) (hO.ntrans _ _ _ hc (sorted_le hO h2 (show m ≤ x + (m - s) by omega) (show x + (m - s) ≤ e - 1 by omega) (by omega)))
      · rw [r4 y (by omega)]; exact h2 _ _ (by omega) (by omega) (by omega)

/-- The left half permuted: what parted the halves parts them still. -/
theorem halves_left {a mid b : Nat} {d d' : Array α} (hb : mid ≤ d.size) (hP : PermIn a mid d d') (h : ∀ x y, a ≤ x → x < mid → mid ≤ y → y < b → lt d[y]! d[x]! = false) : ∀ x y, a ≤ x → x < mid → mid ≤ y → y < b → lt d'[y]! d'[x]! = false := by
  intro x y h1 h2 h3 h4
  rw [hP.2.1 y (Or.inr h3)]
  exact permIn_all d d' a mid (fun z => lt d[y]! z = false) hb hP (fun i hi hj => h i y hi hj h3 h4) x h1 h2

/-- The right half permuted. -/
theorem halves_right {a mid b : Nat} {d d' : Array α} (hb : b ≤ d.size) (hP : PermIn mid b d d') (h : ∀ x y, a ≤ x → x < mid → mid ≤ y → y < b → lt d[y]! d[x]! = false) : ∀ x y, a ≤ x → x < mid → mid ≤ y → y < b → lt d'[y]! d'[x]! = false := by
  intro x y h1 h2 h3 h4
  rw [hP.2.1 x (Or.inl h2)]
  exact permIn_all d d' mid b (fun z => lt z d[x]! = false) hb hP (fun i hi hj => h x i h1 h2 hi hj) y h3 h4

end Go.Proofs.Ytcgajgmcjgoipaa.Stab

namespace Go.Proofs.Ytcgajgmcjgoipaa.Stab
open Go.Sort
variable {α : Type} [Inhabited α] {lt : α → α → Bool}

/-- Every stretch of s elements (the last may be shorter) is sorted. -/
def Runs (lt : α → α → Bool) (s n : Nat) (d : Array α) : Prop := ∀ t, SortedIn lt (t * s) (min (t * s + s) n) d
/-- The first t of them are. -/
def RunsTo (lt : α → α → Bool) (s t : Nat) (d : Array α) : Prop := ∀ t', t' < t → SortedIn lt (t' * s) (t' * s + s) d
/-- The first t of twice that length are, and all of that length behind them. -/
def Half (lt : α → α → Bool) (s n t : Nat) (d : Array α) : Prop :=
  (∀ t', t' < t → SortedIn lt (t' * (2 * s)) (t' * (2 * s) + 2 * s) d) ∧ ∀ t', 2 * t ≤ t' → SortedIn lt (t' * s) (min (t' * s + s) n) d

theorem mul_step {t' t : Nat} (s : Nat) (h : t' < t) : t' * s + s ≤ t * s := by
  have := Nat.mul_le_mul_right s (show t' + 1 ≤ t from h)
  rwa [Nat.add_mul, Nat.one_mul] at this

theorem sorted_kept {a b lo hi : Nat} {d d' : Array α} (h : SortedIn lt a b d) (hP : PermIn lo hi d d') (hd : b ≤ lo ∨ hi ≤ a) : SortedIn lt a b d' :=
  sorted_congr h fun p h1 h2 => hP.2.1 p (by omega)

theorem sorted_empty {a b : Nat} {d : Array α} (h : b ≤ a + 1) : SortedIn lt a b d := fun i j h1 h2 h3 => by omega

theorem runsTo_zero (s : Nat) (d : Array α) : RunsTo lt s 0 d := fun _ h => absurd h (Nat.not_lt_zero _)
theorem runsTo_step {s t : Nat} {d d' : Array α} (h : RunsTo lt s t d) (hP : PermIn (t * s) (t * s + s) d d') (hS : SortedIn lt (t * s) (t * s + s) d') : RunsTo lt s (t + 1) d' := by
  intro t' ht
  by_cases e : t' = t
  · rw [e]; exact hS
  · exact sorted_kept (h t' (by omega)) hP (Or.inl (mul_step s (by omega)))
theorem runsTo_end {s t n : Nat} {d d' : Array α} (h : RunsTo lt s t d) (hP : PermIn (t * s) n d d') (hS : SortedIn lt (t * s) n d') (hn : n < t * s + s) : Runs lt s n d' := by
  intro t'
  by_cases h1 : t' < t
  · have := mul_step s h1
    by_cases h2 : t' * s + s ≤ n
    · rw [Nat.min_eq_left h2]
      exact sorted_kept (h t' h1) hP (Or.inl this)
    · intro i j hi hij hj
      exact sorted_kept (h t' h1) hP (Or.inl this) i j hi hij (by omega)
  · by_cases e : t' = t
    · rw [e, Nat.min_eq_right (by omega)]; exact hS
    · have := mul_step s (show t < t' by omega)
      exact sorted_empty (by omega)

theorem half_start {s n : Nat} {d : Array α} (h : Runs lt s n d) : Half lt s n 0 d := ⟨fun _ h => absurd h (Nat.not_lt_zero _), fun t _ => h t⟩
theorem two_mul_run (t s : Nat) : 2 * t * s = t * (2 * s) := by rw [Nat.mul_comm 2 t, Nat.mul_assoc]
theorem two_mul_run1 (t s : Nat) : (2 * t + 1) * s = t * (2 * s) + s := by rw [Nat.add_mul, Nat.one_mul, two_mul_run]
theorem half_runs {s n t : Nat} {d : Array α} (h : Half lt s n t d) (hn : t * (2 * s) + 2 * s ≤ n) :
    SortedIn lt (t * (2 * s)) (t * (2 * s) + s) d ∧ SortedIn lt (t * (2 * s) + s) (t * (2 * s) + 2 * s) d := by
  have h1 := h.2 (2 * t) (Nat.le_refl _)
  have h2 := h.2 (2 * t + 1) (by omega)
  rw [two_mul_run, Nat.min_eq_left (by omega)] at h1
  rw [two_mul_run1, Nat.min_eq_left (by omega)] at h2
  exact ⟨h1, by rwa [show t * (2 * s) + 2 * s = t * (2 * s) + s + s by omega]⟩
theorem half_tail {s n t : Nat} {d : Array α} (h : Half lt s n t d) (hn : n < t * (2 * s) + 2 * s) (hm : t * (2 * s) + s < n) :
    SortedIn lt (t * (2 * s)) (t * (2 * s) + s) d ∧ SortedIn lt (t * (2 * s) + s) n d := by
  have h1 := h.2 (2 * t) (Nat.le_refl _)
  have h2 := h.2 (2 * t + 1) (by omega)
  rw [two_mul_run, Nat.min_eq_left (by omega)] at h1
  rw [two_mul_run1, Nat.min_eq_right (by omega)] at h2
  exact ⟨h1, h2⟩
theorem half_step {s n t : Nat} {d d' : Array α} (h : Half lt s n t d) (hP : PermIn (t * (2 * s)) (t * (2 * s) + 2 * s) d d') (hS : SortedIn lt (t * (2 * s)) (t * (2 * s) + 2 * s) d') : Half lt s n (t + 1) d' := by
  refine ⟨fun t' ht => ?_, fun t' ht => ?_⟩
  · by_cases e : t' = t
    · rw [e]; exact hS
    · exact sorted_kept (h.1 t' (by omega)) hP (Or.inl (mul_step (2 * s) (by omega)))
  · refine sorted_kept (h.2 t' (by omega)) hP (Or.inr ?_)
    have := Nat.mul_le_mul_right s (show 2 * (t + 1) ≤ t' from ht)
    rw [two_mul_run, Nat.add_mul, Nat.one_mul] at this
    exact this
theorem half_end {s n t : Nat} {d d' : Array α} (h : Half lt s n t d) (hn : n < t * (2 * s) + 2 * s) (hP : PermIn (t * (2 * s)) n d d') (hS : SortedIn lt (t * (2 * s)) n d') : Runs lt (2 * s) n d' := by
  intro t'
  by_cases h1 : t' < t
  · have := mul_step (2 * s) h1
    intro i j hi hij hj
    exact sorted_kept (h.1 t' h1) hP (Or.inl this) i j hi hij (by omega)
  · by_cases e : t' = t
    · rw [e, Nat.min_eq_right (by omega)]; exact hS
    · have := mul_step (2 * s) (show t < t' by omega)
      exact sorted_empty (by omega)
theorem half_short {s n t : Nat} {d : Array α} (h : Half lt s n t d) (hm : n ≤ t * (2 * s) + s) : SortedIn lt (t * (2 * s)) n d := by
  have h1 := h.2 (2 * t) (Nat.le_refl _)
  rwa [two_mul_run, Nat.min_eq_right (by omega)] at h1
theorem runs_whole {s n : Nat} {d : Array α} (h : Runs lt s n d) (hn : n ≤ s) : SortedIn lt 0 n d := by
  have := h 0
  rwa [Nat.zero_mul, Nat.zero_add, Nat.min_eq_right hn] at this

end Go.Proofs.Ytcgajgmcjgoipaa.Stab
