/-
  impl.ArrivalsOf: what is pushed, sorted, and told by its numbers.
-/
import Derived.Test.YtcgajgmcjgoipaaHArrC
namespace Go.Proofs.Ytcgajgmcjgoipaa.Stab
open Go.Shelf Go.RowKit Go.Lib Go.Sort Go.Proofs.YtcgajgmcjgoipaaW.PrintWords Go.Proofs.YtcgajgmcjgoipaaW.PrintLast Go.Proofs.YtcgajgmcjgoipaaW.PrintMore

/-- The fate of a message. -/
def fateV (l : List Int) (i : Int) : Int := if i < (l.length : Int) then rd l i else 0
/-- What one message lays: its time and its number, not at all, once or twice. -/
def pushF (f k : Int) : List (Int × Int) := if f = 1 then [] else if f = 2 then [(2 * k, k), (2 * k, k)] else if f = 3 then [(2 * k + 3, k)] else [(2 * k, k)]
def pushes (l : List Int) : Nat → List (Int × Int)
  | 0 => []
  | k + 1 => pushes l k ++ pushF (fateV l (k : Int)) (k : Int)
/-- Which messages arrive, in order. -/
def arr (l : List Int) (n : Nat) : List Int := ((pushes l n).mergeSort fun x y => !ltOf cfA y x).map (·.2)

theorem pushF_len (f k : Int) : (pushF f k).length ≤ 2 := by
  unfold pushF
  repeat' split
  all_goals simp
theorem pushes_len (l : List Int) (n : Nat) : (pushes l n).length ≤ 2 * n := by
  induction n with
  | zero => simp [pushes]
  | succ n ih =>
    have := pushF_len (fateV l (n : Int)) (n : Int)
    rw [pushes, List.length_append]
    omega

/-- A store into a box that is younger than the row. -/
theorem R_box {α : Type} {d : Kd α} {e base : Nat} {ok : Nat → Prop} {w W : World} {v : Value} {xs : List α} (h : d.R e w base ok v xs) (hb : Below w.heap.size w W) (g j : Nat) (hg : g = w.heap.size) (u : Value) : d.R e (W.setCell ⟨g, j, none⟩ u) base ok v xs := by
  have h1 : d.R e w base (fun k => ok k ∧ k < w.heap.size) v xs := Kd.R_mono (Kd.R_bound h) (fun k hk => ⟨hk.1, hk.2.2.1⟩)
  exact Kd.R_mono (Kd.R_far (p := ⟨g, j, none⟩) (Kd.R_below h1 hb) (fun k hk e => by have := hk.2; simp only at e; omega) u) (fun _ hk => hk.1)

set_option maxHeartbeats 1000000 in
theorem ins_nil (c : Nat) (W : World) : Calls Try.prog 97 #[.slice none 0 c, .int .i64 0, .int .i64 0, .func (.func 70) #[] #[]] W fun e w' => e = .returned (.tuple #[]) ∧ W = w' := by
  go_enter Try.func97, Try.ntmps97
  go_wp2
  go_loopg [8] 1 (fun gg s8 wr => s8 = .int .i64 1 ∧ wr = W)
  case atStart => exact ⟨rfl, rfl⟩
  case round =>
    obtain ⟨rfl, rfl⟩ := hrel
    go_wp2
    go_end0
    exact ⟨rfl, rfl⟩
set_option maxHeartbeats 1000000 in
theorem stable_nil (c : Nat) (W : World) : Calls Try.prog 93 #[.slice none 0 c, .int .i64 0, .func (.func 70) #[] #[]] W fun e w' => e = .returned (.tuple #[]) ∧ W = w' := by
  go_enter Try.func93, Try.ntmps93
  go_wp2
  go_loopg [7, 8] 1 (fun gg s7 s8 wr => s7 = .int .i64 0 ∧ s8 = .int .i64 20 ∧ W = wr)
  case atStart => exact ⟨rfl, rfl, rfl⟩
  case round =>
    obtain ⟨rfl, rfl, rfl⟩ := hrel
    go_wp2_with (go_at_call 97; refine (ins_nil _ _).mono ?_; rintro e w' ⟨rfl, rfl⟩)
    go_loopg [6] 1 (fun gg s6 wr => s6 = .int .i64 20 ∧ W = wr)
    case atStart => exact ⟨rfl, rfl⟩
    case round =>
      obtain ⟨rfl, rfl⟩ := hrel
      go_wp2
      go_end0
      exact ⟨rfl, rfl⟩
theorem sort_nil (c : Nat) (W : World) : Calls Try.prog 69 #[.slice none 0 c, .func (.func 70) #[] #[]] W fun e w' => e = .returned (.tuple #[]) ∧ W = w' := by
  go_enter Try.func69, Try.ntmps69
  go_wp2_with (go_at_call 93; refine (stable_nil _ _).mono ?_; rintro e w' ⟨rfl, rfl⟩)
  go_end0
  exact ⟨rfl, rfl⟩

/-- The sort of a row of the call's own, nil or not. -/
theorem sortR {w : World} {base : Nat} {v : Value} {xs : List (Int × Int)} (h : kA.R 62 w base (fun _ => True) v xs) (hsz : xs.length < 1152921504606846976) :
    Calls Try.prog 69 #[v, .func (.func 70) #[] #[]] w fun e w' =>
      e = .returned (.tuple #[]) ∧ kA.R 62 w' base (fun _ => True) v (xs.mergeSort fun x y => !ltOf cfA y x) ∧ w.grownBy w' v.ownBlock := by
  obtain ⟨inner, hl, ho⟩ := Kd.R_own h
  rcases ho with ⟨rfl, hn⟩ | ⟨g, cap, cur, rfl, hg, hh, _⟩
  · obtain rfl : xs = [] := List.eq_nil_of_length_eq_zero hn
    refine (sort_nil 0 w).mono ?_
    rintro e w' ⟨rfl, rfl⟩
    exact ⟨rfl, by rw [List.mergeSort_nil]; exact h, ⟨rfl, rfl, rfl, Nat.le_refl _, fun _ _ _ => rfl⟩⟩
  · exact sortA h (Array.getElem?_eq_some_iff.1 hh).1 hsz

end Go.Proofs.Ytcgajgmcjgoipaa.Stab
