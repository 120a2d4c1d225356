import Derived.Test.YtcgajgmcjgoipaaWWords
import Derived.Lib.SliceRun
import Derived.Shelf.Abstract
namespace Go.Proofs.Ytcgajgmcjgoipaa.Base
open Go.RowKit Go.Proofs.YtcgajgmcjgoipaaW.PrintWords

/-! Function values that answer a bool. -/

/-- Called at x, in every world in which all that lay in w lies unturned, the function value answers p x; it may draw; it turns and lays nothing. -/
def FnBool {α : Type} (P : Program) (g : Nat) (lb : Array Value) (enc : α → Value) (p : α → Bool) (w : World) : Prop :=
  ∀ (W : World) (x : α), Below w.heap.size w W → Calls P g (#[enc x] ++ lb) W fun e w' => e = .returned (.bool (p x)) ∧ ∃ q, w' = W.drewN q
theorem FnBool.later {α : Type} {P : Program} {g : Nat} {lb : Array Value} {enc : α → Value} {p : α → Bool} {w W : World} (h : FnBool P g lb enc p w) (hb : Below w.heap.size w W) : FnBool P g lb enc p W :=
  fun W' x hb' => h W' x (hb.trans (hb'.mono hb.size))

/-- The place of the first element of which p holds, or -1. -/
def idx {α : Type} (p : α → Bool) (l : List α) : Int := if l.any p then (l.findIdx p : Int) else -1
theorem idx_any {α : Type} (p : α → Bool) (l : List α) : decide (0 ≤ idx p l) = l.any p := by
  unfold idx
  cases h : l.any p <;> simp
theorem all_any {α : Type} (p : α → Bool) (l : List α) : l.all p = !l.any (fun x => !p x) := by
  induction l with
  | nil => rfl
  | cons x l ih => simp [ih]
theorem idx_hit (p : Int → Bool) (l : List Int) (k : Nat) (hk : k < l.length) (h : p (rd l (k : Int)) = true) (hb : ∀ j, j < k → p (rd l (j : Int)) = false) : idx p l = k := by
  have hg : ∀ j (hj : j < l.length), rd l (j : Int) = l[j] := fun j hj => by simp [rd, hj]
  have ha : l.any p = true := List.any_eq_true.2 ⟨l[k], List.getElem_mem hk, by rw [← hg k hk]; exact h⟩
  unfold idx
  rw [if_pos ha]
  have : l.findIdx p = k := by
    rw [List.findIdx_eq hk]
    exact ⟨by rw [← hg k hk]; exact h, fun j hj => by rw [← hg j (by omega)]; simp [hb j hj]⟩
  rw [this]
theorem idx_miss (p : Int → Bool) (l : List Int) (hb : ∀ j, j < l.length → p (rd l (j : Int)) = false) : idx p l = -1 := by
  have hg : ∀ j (hj : j < l.length), rd l (j : Int) = l[j] := fun j hj => by simp [rd, hj]
  unfold idx
  rw [if_neg]
  intro ha
  obtain ⟨x, hx, hp⟩ := List.any_eq_true.1 ha
  obtain ⟨j, hj, rfl⟩ := List.getElem_of_mem hx
  rw [← hg j hj, hb j hj] at hp
  cases hp

/-- How many bits of a byte are set. -/
def pop8 (n : Nat) : Nat := n % 2 + n / 2 % 2 + n / 4 % 2 + n / 8 % 2 + n / 16 % 2 + n / 32 % 2 + n / 64 % 2 + n / 128 % 2

end Go.Proofs.Ytcgajgmcjgoipaa.Base
