/-
  The comparison by which the arrivals are sorted: the times, and at the same time the numbers.
-/
import Derived.Test.YtcgajgmcjgoipaaSymWalkD
import Derived.StillTailTactics
import Derived.Deep.QuietTactic
namespace Go.Proofs.Ytcgajgmcjgoipaa.Stab
open Go.Shelf Go.RowKit Go.Lib Go.Sort

def encA (x : Int × Int) : List Value := [.int .i64 x.1, .int .i64 x.2]
/-- cmp.Or at two. -/
def or2 (x y : Int) : Int := if x = 0 then y else x
def cfA (x y : Int × Int) : Int := or2 (Lib.compareInt x.1 y.1) (Lib.compareInt x.2 y.2)

set_option maxHeartbeats 2000000 in
theorem or2_calls (b : Nat) (x y : Int) (w : World) (h0 : w.cell? ⟨b, 0, none⟩ = some (.int .i64 x)) (h1 : w.cell? ⟨b, 1, none⟩ = some (.int .i64 y)) :
    Calls Try.prog 71 #[.slice (some ⟨b, 0, none⟩) 2 2] w fun e w' => e = .returned (.int .i64 (or2 x y)) ∧ w = w' := by
  unfold or2
  by_cases hx : x = 0
  · subst hx
    by_cases hy : y = 0
    · subst hy
      go_enter Try.func71, Try.ntmps71
      go_wp2
      go_loopg [5, 8] 2 (fun gg _ s8 wr => ∃ k : Nat, k ≤ 2 ∧ 2 - k ≤ gg ∧ s8 = .int .i64 k ∧ wr = w)
      case atStart => exact ⟨0, by omega, by omega, rfl, rfl⟩
      case round =>
        obtain ⟨k, hk, hg, rfl, rfl⟩ := hrel
        rcases (show k = 0 ∨ k = 1 ∨ k = 2 by omega) with rfl | rfl | rfl
        · go_wp2
          go_roundg 1
          case measure => omega
          case rel => exact ⟨1, by omega, by omega, by go_num, rfl⟩
        · go_wp2
          go_roundg 0
          case measure => omega
          case rel => exact ⟨2, by omega, by omega, by go_num, rfl⟩
        · go_wp2
          go_ret
          exact ⟨rfl, rfl⟩
    · go_enter Try.func71, Try.ntmps71
      go_wp2
      go_loopg [5, 8] 2 (fun gg _ s8 wr => ∃ k : Nat, k ≤ 1 ∧ 2 - k ≤ gg ∧ s8 = .int .i64 k ∧ wr = w)
      case atStart => exact ⟨0, by omega, by omega, rfl, rfl⟩
      case round =>
        obtain ⟨k, hk, hg, rfl, rfl⟩ := hrel
        rcases (show k = 0 ∨ k = 1 by omega) with rfl | rfl
        · go_wp2
          go_roundg 1
          case measure => omega
          case rel => exact ⟨1, by omega, by omega, by go_num, rfl⟩
        · go_wp2
          go_ret
          exact ⟨rfl, rfl⟩
  · go_enter Try.func71, Try.ntmps71
    go_wp2
    go_loopg [5, 8] 2 (fun gg _ s8 wr => s8 = .int .i64 0 ∧ wr = w)
    case atStart => exact ⟨rfl, rfl⟩
    case round =>
      obtain ⟨rfl, rfl⟩ := hrel
      go_wp2
      go_ret
      exact ⟨by simp, rfl⟩

theorem or2_at (X : World) (N : Nat) (hN : X.heap.size = N) (c1 c2 : Int) : Calls Try.prog 71 #[.slice (some ⟨N, 0, none⟩) 2 2] (X.alloc (.cells #[.int .i64 c1, .int .i64 c2] 3)).drew fun e w' => e = .returned (.int .i64 (or2 c1 c2)) ∧ (X.alloc (.cells #[.int .i64 c1, .int .i64 c2] 3)).drew = w' := by
  subst hN
  exact or2_calls _ c1 c2 _ (World.cell?_alloc_new _ _ _ 0) (World.cell?_alloc_new _ _ _ 1)

theorem grown3 (W : World) (a b c : Obj) : ∃ q os', (((W.alloc a).alloc b).alloc c).drew = grow (W.drewN q) os' :=
  ⟨1, #[a] ++ #[b] ++ #[c], by rw [alloc_eq_grow, alloc_eq_grow, alloc_eq_grow, grow_grow, grow_grow]; rfl⟩

set_option maxHeartbeats 8000000 in
set_option maxRecDepth 100000 in
theorem cmpA_calls (x y : Int × Int) (W : World) : Calls Try.prog 70 #[.agg (encA x).toArray, .agg (encA y).toArray] W fun e w' => e = .returned (.int .i64 (cfA x y)) ∧ ∃ q os', w' = grow (W.drewN q) os' := by
  obtain ⟨x1, x2⟩ := x
  obtain ⟨y1, y2⟩ := y
  unfold cfA encA
  have hc1 := fun W' => AnyG.cmp_Compare_int Try.cmpInt x1 y1 W'
  change ∀ W', Calls Try.prog 72 _ _ _ at hc1
  have hc2 := fun W' => AnyG.cmp_Compare_int Try.cmpInt x2 y2 W'
  change ∀ W', Calls Try.prog 72 _ _ _ at hc2
  generalize Lib.compareInt x1 y1 = c1 at hc1 ⊢
  generalize Lib.compareInt x2 y2 = c2 at hc2 ⊢
  go_enter Try.func70, Try.ntmps70
  go_wp2
  obtain ⟨Z, hZ⟩ : ∃ Z, Z = (W.alloc (.cells #[.int .i64 x1, .int .i64 x2] 62)).alloc (.cells #[.int .i64 y1, .int .i64 y2] 62) := ⟨_, rfl⟩
  rw [← hZ]
  have q1 : Z.drew.cell? ⟨W.heap.size, 0, none⟩ = some (.int .i64 x1) := by subst hZ; exact (World.cell?_alloc_lt _ _ ⟨W.heap.size, 0, none⟩ (by rw [World.size_alloc]; exact Nat.lt_succ_self _)).trans (World.cell?_alloc_new _ _ _ 0)
  have q2 : Z.drew.cell? ⟨W.heap.size, 1, none⟩ = some (.int .i64 x2) := by subst hZ; exact (World.cell?_alloc_lt _ _ ⟨W.heap.size, 1, none⟩ (by rw [World.size_alloc]; exact Nat.lt_succ_self _)).trans (World.cell?_alloc_new _ _ _ 1)
  have q3 : Z.drew.cell? ⟨W.heap.size + 1, 0, none⟩ = some (.int .i64 y1) := by subst hZ; rw [← World.size_alloc W (.cells #[.int .i64 x1, .int .i64 x2] 62)]; exact World.cell?_alloc_new _ _ _ 0
  have q4 : Z.drew.cell? ⟨W.heap.size + 1, 1, none⟩ = some (.int .i64 y2) := by subst hZ; rw [← World.size_alloc W (.cells #[.int .i64 x1, .int .i64 x2] 62)]; exact World.cell?_alloc_new _ _ _ 1
  have hor := or2_at Z Z.heap.size rfl c1 c2
  have HZ : Hid _ := hZ
  clear hZ
  refine wp_region_still_tail 10 (by kernel_rfl) (by kernel_rfl) ?_
  simp only [List.take_succ_cons, List.take_zero, List.drop_succ_cons, List.drop_zero]
  change wpStill _ _ Z.drew _ _ _
  still_step
  still_step
  still_step
  still_step
  still_call (hc1 _)
  still_step
  still_step
  still_step
  still_step
  still_call (hc2 _)
  refine wpStill_nil ?_
  change wpList _ _ _ _ _ Z.drew
  clear hc1 hc2 q1 q2 q3 q4
  go_wp2_with (go_at_call 71; refine hor.mono ?_; rintro e w' ⟨rfl, rfl⟩)
  clear hor
  go_ret
  refine ⟨rfl, ?_⟩
  rw [HZ.out]
  exact grown3 W _ _ _

end Go.Proofs.Ytcgajgmcjgoipaa.Stab
