/-
  Runs of one length, each sorted: laid one by one, then merged two and two, in plain Lean.
-/
import Derived.Test.YtcgajgmcjgoipaaSymPure
namespace Go.Proofs.Ytcgajgmcjgoipaa.Stab
open Go.Sort
variable {α : Type} [Inhabited α] {lt : α → α → Bool}

/-- Every stretch of s elements (the last may be shorter) is sorted. -/
def Runs (lt : α → α → Bool) (s n : Nat) (d : Array α) : Prop := ∀ t, SortedIn lt (t * s) (min (t * s + s) n) d
/-- The first t of them are. -/
def RunsTo (lt : α → α → Bool) (s t : Nat) (d : Array α) : Prop := ∀ t', t' < t → SortedIn lt (t' * s) (t' * s + s) d
/-- The first t of twice that length are, and all of that length behind them. -/
def Half (lt : α → α → Bool) (s n t : Nat) (d : Array α) : Prop :=
  (∀ t', t' < t → SortedIn lt (t' * (2 * s)) (t' * (2 * s) + 2 * s) d) ∧ ∀ t', 2 * t ≤ t' → SortedIn lt (t' * s) (min (t' * s + s) n) d

theorem mul_step {t' t : Nat} (s : Nat) (h : t' < t) : t' * s + s ≤ t * s := by
  have := Nat.mul_le_mul_right s (show t' + 1 ≤ t from h)
  rwa [Nat.add_mul, Nat.one_mul] at this

theorem sorted_kept {a b lo hi : Nat} {d d' : Array α} (h : SortedIn lt a b d) (hP : PermIn lo hi d d') (hd : b ≤ lo ∨ hi ≤ a) : SortedIn lt a b d' :=
  sorted_congr h fun p h1 h2 => hP.2.1 p (by omega)

theorem sorted_empty {a b : Nat} {d : Array α} (h : b ≤ a + 1) : SortedIn lt a b d := fun i j h1 h2 h3 => by omega

theorem runsTo_zero (s : Nat) (d : Array α) : RunsTo lt s 0 d := fun _ h => absurd h (Nat.not_lt_zero _)
theorem runsTo_step {s t : Nat} {d d' : Array α} (h : RunsTo lt s t d) (hP : PermIn (t * s) (t * s + s) d d') (hS : SortedIn lt (t * s) (t * s + s) d') : RunsTo lt s (t + 1) d' := by
  intro t' ht
  by_cases e : t' = t
  · rw [e]; exact hS
  · exact sorted_kept (h t' (by omega)) hP (Or.inl (mul_step s (by omega)))
theorem runsTo_end {s t n : Nat} {d d' : Array α} (h : RunsTo lt s t d) (hP : PermIn (t * s) n d d') (hS : SortedIn lt (t * s) n d') (hn : n < t * s + s) : Runs lt s n d' := by
  intro t'
  by_cases h1 : t' < t
  · have := mul_step s h1
    by_cases h2 : t' * s + s ≤ n
    · rw [Nat.min_eq_left h2]
      exact sorted_kept (h t' h1) hP (Or.inl this)
    · intro i j hi hij hj
      exact sorted_kept (h t' h1) hP (Or.inl this) i j hi hij (by omega)
  · by_cases e : t' = t
    · rw [e, Nat.min_eq_right (by omega)]; exact hS
    · have := mul_step s (show t < t' by omega)
      exact sorted_empty (by omega)

theorem half_start {s n : Nat} {d : Array α} (h : Runs lt s n d) : Half lt s n 0 d := ⟨fun _ h => absurd h (Nat.not_lt_zero _), fun t _ => h t⟩
theorem two_mul_run (t s : Nat) : 2 * t * s = t * (2 * s) := by rw [Nat.mul_comm 2 t, Nat.mul_assoc]
theorem two_mul_run1 (t s : Nat) : (2 * t + 1) * s = t * (2 * s) + s := by rw [Nat.add_mul, Nat.one_mul, two_mul_run]
theorem half_runs {s n t : Nat} {d : Array α} (h : Half lt s n t d) (hn : t * (2 * s) + 2 * s ≤ n) :
    SortedIn lt (t * (2 * s)) (t * (2 * s) + s) d ∧ SortedIn lt (t * (2 * s) + s) (t * (2 * s) + 2 * s) d := by
  have h1 := h.2 (2 * t) (Nat.le_refl _)
  have h2 := h.2 (2 * t + 1) (by omega)
  rw [two_mul_run, Nat.min_eq_left (by omega)] at h1
  rw [two_mul_run1, Nat.min_eq_left (by omega)] at h2
  exact ⟨h1, by rwa [show t * (2 * s) + 2 * s = t * (2 * s) + s + s by omega]⟩
theorem half_tail {s n t : Nat} {d : Array α} (h : Half lt s n t d) (hn : n < t * (2 * s) + 2 * s) (hm : t * (2 * s) + s < n) :
    SortedIn lt (t * (2 * s)) (t * (2 * s) + s) d ∧ SortedIn lt (t * (2 * s) + s) n d := by
  have h1 := h.2 (2 * t) (Nat.le_refl _)
  have h2 := h.2 (2 * t + 1) (by omega)
  rw [two_mul_run, Nat.min_eq_left (by omega)] at h1
  rw [two_mul_run1, Nat.min_eq_right (by omega)] at h2
  exact ⟨h1, h2⟩
theorem half_step {s n t : Nat} {d d' : Array α} (h : Half lt s n t d) (hP : PermIn (t * (2 * s)) (t * (2 * s) + 2 * s) d d') (hS : SortedIn lt (t * (2 * s)) (t * (2 * s) + 2 * s) d') : Half lt s n (t + 1) d' := by
  refine ⟨fun t' ht => ?_, fun t' ht => ?_⟩
  · by_cases e : t' = t
    · rw [e]; exact hS
    · exact sorted_kept (h.1 t' (by omega)) hP (Or.inl (mul_step (2 * s) (by omega)))
  · refine sorted_kept (h.2 t' (by omega)) hP (Or.inr ?_)
    have := Nat.mul_le_mul_right s (show 2 * (t + 1) ≤ t' from ht)
    rw [two_mul_run, Nat.add_mul, Nat.one_mul] at this
    exact this
theorem half_end {s n t : Nat} {d d' : Array α} (h : Half lt s n t d) (hn : n < t * (2 * s) + 2 * s) (hP : PermIn (t * (2 * s)) n d d') (hS : SortedIn lt (t * (2 * s)) n d') : Runs lt (2 * s) n d' := by
  intro t'
  by_cases h1 : t' < t
  · have := mul_step (2 * s) h1
    intro i j hi hij hj
    exact sorted_kept (h.1 t' h1) hP (Or.inl this) i j hi hij (by omega)
  · by_cases e : t' = t
    · rw [e, Nat.min_eq_right (by omega)]; exact hS
    · have := mul_step (2 * s) (show t < t' by omega)
      exact sorted_empty (by omega)
theorem half_short {s n t : Nat} {d : Array α} (h : Half lt s n t d) (hm : n ≤ t * (2 * s) + s) : SortedIn lt (t * (2 * s)) n d := by
  have h1 := h.2 (2 * t) (Nat.le_refl _)
  rwa [two_mul_run, Nat.min_eq_right (by omega)] at h1
theorem runs_whole {s n : Nat} {d : Array α} (h : Runs lt s n d) (hn : n ≤ s) : SortedIn lt 0 n d := by
  have := h 0
  rwa [Nat.zero_mul, Nat.zero_add, Nat.min_eq_right hn] at this

end Go.Proofs.Ytcgajgmcjgoipaa.Stab
