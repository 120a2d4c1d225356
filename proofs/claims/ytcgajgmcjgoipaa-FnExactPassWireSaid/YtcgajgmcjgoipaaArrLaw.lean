/-
  The arrivals, in plain Lean: sorted by times and numbers they are what the reference lays time by time.
-/
import Derived.Test.YtcgajgmcjgoipaaHArrC
namespace Go.Proofs.Ytcgajgmcjgoipaa.Stab
open Go.Sort Go.Proofs.YtcgajgmcjgoipaaW.PrintWords

/-- When message k arrives, or -1. -/
def atF (f k : Int) : Int := if f = 1 then -1 else if f = 3 then 2 * k + 3 else 2 * k
/-- What arrives of message k at the time t. -/
def atP (l : List Int) (t k : Nat) : List (Int × Int) := if atF (fateV l (k : Int)) (k : Int) = (t : Int) then (if fateV l (k : Int) = 2 then [((t : Int), (k : Int)), ((t : Int), (k : Int))] else [((t : Int), (k : Int))]) else []
/-- What arrives of the first n at the time t. -/
def innP (l : List Int) (t : Nat) : Nat → List (Int × Int)
  | 0 => []
  | k + 1 => innP l t k ++ atP l t k
/-- What arrives of the first n before the time T. -/
def outP (l : List Int) (n : Nat) : Nat → List (Int × Int)
  | 0 => []
  | t + 1 => outP l n t ++ innP l t n
/-- What arrives of message k before the time T. -/
def colP (l : List Int) (k : Nat) : Nat → List (Int × Int)
  | 0 => []
  | t + 1 => colP l k t ++ atP l t k

theorem atP_mem {l : List Int} {t k : Nat} {x : Int × Int} (h : x ∈ atP l t k) : x = ((t : Int), (k : Int)) := by
  unfold atP at h
  split at h
  · split at h <;> simpa using h
  · simp at h
theorem innP_mem {l : List Int} {t n : Nat} {x : Int × Int} (h : x ∈ innP l t n) : x.1 = t ∧ 0 ≤ x.2 ∧ x.2 < n := by
  induction n with
  | zero => simp [innP] at h
  | succ n ih =>
    rw [innP, List.mem_append] at h
    rcases h with h | h
    · have := ih h
      omega
    · have e := atP_mem h
      subst e
      exact ⟨rfl, Int.natCast_nonneg n, by show (n : Int) < ((n + 1 : Nat) : Int); omega⟩
theorem outP_mem {l : List Int} {T n : Nat} {x : Int × Int} (h : x ∈ outP l n T) : x.1 < T := by
  induction T with
  | zero => simp [outP] at h
  | succ T ih =>
    rw [outP, List.mem_append] at h
    rcases h with h | h
    · have := ih h
      omega
    · have := innP_mem h
      omega
theorem atP_sorted (l : List Int) (t k : Nat) : (atP l t k).Pairwise fun x y => ltOf cfA y x = false := by
  unfold atP
  split
  · split
    · simp [swoA.irrefl]
    · simp
  · simp
theorem innP_sorted (l : List Int) (t n : Nat) : (innP l t n).Pairwise fun x y => ltOf cfA y x = false := by
  induction n with
  | zero => simp [innP]
  | succ n ih =>
    rw [innP, List.pairwise_append]
    refine ⟨ih, atP_sorted l t n, fun a ha b hb => ?_⟩
    have h1 := innP_mem ha
    rw [atP_mem hb, ltA_false]
    simp only
    omega
theorem outP_sorted (l : List Int) (n T : Nat) : (outP l n T).Pairwise fun x y => ltOf cfA y x = false := by
  induction T with
  | zero => simp [outP]
  | succ T ih =>
    rw [outP, List.pairwise_append]
    refine ⟨ih, innP_sorted l T n, fun a ha b hb => ?_⟩
    have h1 := outP_mem ha
    have h2 := innP_mem hb
    rw [ltA_false]
    omega
theorem colP_none (l : List Int) (k T : Nat) (h : atF (fateV l (k : Int)) (k : Int) < 0 ∨ (T : Int) ≤ atF (fateV l (k : Int)) (k : Int)) : colP l k T = [] := by
  induction T with
  | zero => rfl
  | succ T ih =>
    rw [colP, ih (by omega)]
    unfold atP
    rw [if_neg (by omega)]
    rfl
theorem pushF_at (f k : Int) (h : 0 ≤ atF f k) : pushF f k = if f = 2 then [(atF f k, k), (atF f k, k)] else [(atF f k, k)] := by
  unfold pushF
  unfold atF at h ⊢
  by_cases h1 : f = 1
  · rw [if_pos h1] at h; omega
  · rw [if_neg h1, if_neg h1]
    by_cases h2 : f = 2
    · rw [if_pos h2, if_pos h2, if_neg (by omega)]
    · rw [if_neg h2, if_neg h2]
      by_cases h3 : f = 3
      · rw [if_pos h3, if_pos h3]
      · rw [if_neg h3, if_neg h3]
theorem colP_all (l : List Int) (k T : Nat) (h0 : 0 ≤ atF (fateV l (k : Int)) (k : Int)) (h : atF (fateV l (k : Int)) (k : Int) < (T : Int)) : colP l k T = pushF (fateV l (k : Int)) (k : Int) := by
  induction T with
  | zero => omega
  | succ T ih =>
    rw [colP]
    by_cases e : atF (fateV l (k : Int)) (k : Int) = (T : Int)
    · rw [colP_none l k T (Or.inr (by omega)), List.nil_append]
      unfold atP
      rw [if_pos e, pushF_at _ _ h0, e]
    · rw [ih (by omega)]
      unfold atP
      rw [if_neg e, List.append_nil]
theorem atF_lost {f k : Int} (hk : 0 ≤ k) (h : atF f k < 0) : f = 1 := by
  unfold atF at h
  split at h
  · assumption
  · split at h <;> omega
theorem atF_le (f k : Int) (hk : 0 ≤ k) : atF f k ≤ 2 * k + 3 := by
  unfold atF
  repeat' split
  all_goals omega
theorem colP_eq (l : List Int) (k T : Nat) (h : 2 * k + 3 < T) : colP l k T = pushF (fateV l (k : Int)) (k : Int) := by
  by_cases h0 : atF (fateV l (k : Int)) (k : Int) < 0
  · rw [colP_none l k T (Or.inl h0)]
    unfold pushF
    rw [if_pos (atF_lost (by omega) h0)]
  · have := atF_le (fateV l (k : Int)) (k : Int) (by omega)
    exact colP_all l k T (by omega) (by omega)
theorem outP_next (l : List Int) (n T : Nat) : (outP l (n + 1) T).Perm (outP l n T ++ colP l n T) := by
  induction T with
  | zero => exact List.Perm.refl _
  | succ T ih =>
    rw [outP, outP, colP, innP]
    refine (List.Perm.append_right _ ih).trans ?_
    rw [List.append_assoc, List.append_assoc]
    refine List.Perm.append_left _ ?_
    rw [← List.append_assoc, ← List.append_assoc]
    exact List.Perm.append_right _ List.perm_append_comm
theorem outP_perm (l : List Int) (T n : Nat) (h : 2 * n + 2 ≤ T) : (outP l n T).Perm (pushes l n) := by
  induction n with
  | zero =>
    have : outP l 0 T = [] := by
      clear h
      induction T with
      | zero => rfl
      | succ T ih => rw [outP, ih]; rfl
    rw [this]
    exact List.Perm.refl _
  | succ n ih =>
    refine (outP_next l n T).trans ?_
    rw [colP_eq l n T (by omega), pushes]
    exact List.Perm.append_right _ (ih (by omega))
theorem leA_trans (x y z : Int × Int) (h1 : (!ltOf cfA y x) = true) (h2 : (!ltOf cfA z y) = true) : (!ltOf cfA z x) = true := by
  rw [Bool.not_eq_true'] at *
  exact swoA.ntrans _ _ _ h2 h1
theorem leA_total (x y : Int × Int) : ((!ltOf cfA y x) || (!ltOf cfA x y)) = true := by
  rw [Bool.or_eq_true, Bool.not_eq_true', Bool.not_eq_true', ltA_false, ltA_false]
  omega
theorem sorted_pushes (l : List Int) (n : Nat) : ((pushes l n).mergeSort fun x y => !ltOf cfA y x).Pairwise fun x y => ltOf cfA y x = false :=
  (List.pairwise_mergeSort (le := fun x y => !ltOf cfA y x) leA_trans leA_total (pushes l n)).imp fun h => by rwa [Bool.not_eq_true'] at h
theorem arr_out (l : List Int) (n : Nat) : arr l n = (outP l n (2 * n + 3)).map (·.2) := by
  unfold arr
  congr 1
  refine List.Perm.eq_of_pairwise (le := fun x y => ltOf cfA y x = false) (fun a b _ _ h1 h2 => (ltA_eq a b h2 h1)) (sorted_pushes l n) (outP_sorted l n _) ?_
  exact (List.mergeSort_perm _ _).trans (outP_perm l _ n (by omega)).symm
theorem arr_perm (l : List Int) (n : Nat) : (arr l n).Perm ((pushes l n).map (·.2)) := (List.mergeSort_perm _ _).map _
theorem arr_len (l : List Int) (n : Nat) : (arr l n).length = (pushes l n).length := by rw [(arr_perm l n).length_eq, List.length_map]

theorem pushF_mem {f k : Int} {x : Int × Int} (h : x ∈ pushF f k) : x.2 = k ∧ x.1 = atF f k ∧ f ≠ 1 := by
  unfold pushF at h
  unfold atF
  split at h
  · simp at h
  · rename_i h1
    rw [if_neg h1]
    split at h
    · rename_i h2
      rw [if_neg (by omega)]
      have : x = (2 * k, k) := by simpa using h
      rw [this]
      exact ⟨rfl, rfl, h1⟩
    · split at h
      · rename_i h3
        have : x = (2 * k + 3, k) := by simpa using h
        rw [this]
        exact ⟨rfl, (if_pos h3).symm, h1⟩
      · rename_i h3
        have : x = (2 * k, k) := by simpa using h
        rw [this]
        exact ⟨rfl, (if_neg h3).symm, h1⟩
theorem pushes_mem {l : List Int} {n : Nat} {x : Int × Int} (h : x ∈ pushes l n) : ∃ k : Nat, k < n ∧ x.2 = k ∧ x.1 = atF (fateV l (k : Int)) (k : Int) ∧ fateV l (k : Int) ≠ 1 := by
  induction n with
  | zero => simp [pushes] at h
  | succ n ih =>
    rw [pushes, List.mem_append] at h
    rcases h with h | h
    · obtain ⟨k, hk, h1⟩ := ih h
      exact ⟨k, by omega, h1⟩
    · exact ⟨n, by omega, pushF_mem h⟩
theorem arr_mem {l : List Int} {n : Nat} {k : Int} (h : k ∈ arr l n) : 0 ≤ k ∧ k < n := by
  obtain ⟨x, hx, rfl⟩ := List.mem_map.1 ((arr_perm l n).mem_iff.1 h)
  obtain ⟨k, hk, h1, _⟩ := pushes_mem hx
  omega

/-! ### How many arrive -/
/-- How many of the first n have the fate c. -/
def fatN (l : List Int) (c : Int) : Nat → Int
  | 0 => 0
  | n + 1 => fatN l c n + (if fateV l (n : Int) = c then 1 else 0)
theorem fatN_range (l : List Int) (c : Int) (n : Nat) : 0 ≤ fatN l c n ∧ fatN l c n ≤ n := by
  induction n with
  | zero => simp [fatN]
  | succ n ih =>
    simp only [fatN]
    split <;> omega
theorem pushes_count (l : List Int) (n : Nat) : ((pushes l n).length : Int) = (n : Int) - fatN l 1 n + fatN l 2 n := by
  induction n with
  | zero => simp [pushes, fatN]
  | succ n ih =>
    rw [pushes, List.length_append]
    simp only [fatN]
    unfold pushF
    by_cases h1 : fateV l (n : Int) = 1
    · rw [if_pos h1, if_pos h1, if_neg (by omega)]
      simp only [List.length_nil]
      omega
    · rw [if_neg h1, if_neg h1]
      by_cases h2 : fateV l (n : Int) = 2
      · rw [if_pos h2, if_pos h2]
        simp only [List.length_cons, List.length_nil]
        omega
      · rw [if_neg h2, if_neg h2]
        split <;> simp only [List.length_cons, List.length_nil] <;> omega
/-- How often one with the fate f arrives. -/
def want (f : Int) : Int := if f = 1 then 0 else if f = 2 then 2 else 1
theorem pushF_count (f : Int) (n k : Int) : ((((pushF f n).map (·.2)).count k : Nat) : Int) = if n = k then want f else 0 := by
  unfold pushF want
  by_cases h : n = k
  · subst h
    rw [if_pos rfl]
    split
    · rfl
    · split
      · simp
      · split <;> simp
  · rw [if_neg h]
    have hk : (n == k) = false := beq_false_of_ne h
    split
    · rfl
    · split
      · simp [List.count_cons, hk]
      · split <;> simp [List.count_cons, hk]
theorem pushes_at (l : List Int) (n : Nat) (k : Nat) : ((((pushes l n).map (·.2)).count (k : Int) : Nat) : Int) = if k < n then want (fateV l (k : Int)) else 0 := by
  induction n with
  | zero => simp [pushes]
  | succ n ih =>
    have h := pushF_count (fateV l (n : Int)) (n : Int) (k : Int)
    rw [pushes, List.map_append, List.count_append]
    by_cases e : n = k
    · subst e
      rw [if_neg (Nat.lt_irrefl _)] at ih
      rw [if_pos rfl] at h
      rw [if_pos (Nat.lt_succ_self _)]
      omega
    · rw [if_neg (by omega)] at h
      by_cases h2 : k < n
      · rw [if_pos h2] at ih
        rw [if_pos (by omega)]
        omega
      · rw [if_neg h2] at ih
        rw [if_neg (by omega)]
        omega
theorem arr_count (l : List Int) (n k : Nat) (hk : k < n) : (((arr l n).count (k : Int) : Nat) : Int) = want (fateV l (k : Int)) := by
  rw [(arr_perm l n).count_eq, pushes_at, if_pos hk]

/-! ### Who overtakes whom -/
theorem arr_near (l : List Int) (n : Nat) : (arr l n).Pairwise fun k m => m < k → k = m + 1 ∧ fateV l m = 3 ∧ fateV l k ≠ 3 := by
  unfold arr
  rw [List.pairwise_map]
  refine (sorted_pushes l n).imp_of_mem fun {a b} ha hb h hlt => ?_
  obtain ⟨k, hk, k1, k2, k3⟩ := pushes_mem ((List.mergeSort_perm _ _).mem_iff.1 ha)
  obtain ⟨m, hm, m1, m2, m3⟩ := pushes_mem ((List.mergeSort_perm _ _).mem_iff.1 hb)
  rw [ltA_false] at h
  rw [k1, m1] at hlt ⊢
  unfold atF at k2 m2
  rw [if_neg k3] at k2
  rw [if_neg m3] at m2
  by_cases f1 : fateV l (k : Int) = 3
  · rw [if_pos f1] at k2
    by_cases f2 : fateV l (m : Int) = 3
    · rw [if_pos f2] at m2
      omega
    · rw [if_neg f2] at m2
      omega
  · rw [if_neg f1] at k2
    by_cases f2 : fateV l (m : Int) = 3
    · rw [if_pos f2] at m2
      exact ⟨by omega, f2, f1⟩
    · rw [if_neg f2] at m2
      omega

end Go.Proofs.Ytcgajgmcjgoipaa.Stab
