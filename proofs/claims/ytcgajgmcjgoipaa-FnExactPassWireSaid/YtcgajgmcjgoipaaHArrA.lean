/-
  The comparison by which the arrivals are sorted: the times, and at the same time the numbers.
  The row of arrivals as the sort's kit holds it, and as the print's words hold it; the sort at this dump.
-/
import Derived.Test.YtcgajgmcjgoipaaSymWalkD
import Derived.StillTailTactics
import Derived.Deep.QuietTactic
import Derived.Test.YtcgajgmcjgoipaaWWords
import Derived.Sort.OwnSortedInts
namespace Go.Proofs.Ytcgajgmcjgoipaa.Stab
open Go.Shelf Go.RowKit Go.Lib Go.Sort

def encA (x : Int × Int) : List Value := [.int .i64 x.1, .int .i64 x.2]
/-- cmp.Or at two. -/
def or2 (x y : Int) : Int := if x = 0 then y else x
def cfA (x y : Int × Int) : Int := or2 (Lib.compareInt x.1 y.1) (Lib.compareInt x.2 y.2)

set_option maxHeartbeats 2000000 in
theorem or2_calls (b : Nat) (x y : Int) (w : World) (h0 : w.cell? ⟨b, 0, none⟩ = some (.int .i64 x)) (h1 : w.cell? ⟨b, 1, none⟩ = some (.int .i64 y)) :
    Calls Try.prog 71 #[.slice (some ⟨b, 0, none⟩) 2 2] w fun e w' => e = .returned (.int .i64 (or2 x y)) ∧ w = w' := by
  unfold or2
  by_cases hx : x = 0
  · subst hx
    by_cases hy : y = 0
    · subst hy
      go_enter Try.func71, Try.ntmps71
      go_wp2
      go_loopg [5, 8] 2 (fun gg _ s8 wr => ∃ k : Nat, k ≤ 2 ∧ 2 - k ≤ gg ∧ s8 = .int .i64 k ∧ wr = w)
      case atStart => exact ⟨0, by omega, by omega, rfl, rfl⟩
      case round =>
        obtain ⟨k, hk, hg, rfl, rfl⟩ := hrel
        rcases (show k = 0 ∨ k = 1 ∨ k = 2 by omega) with rfl | rfl | rfl
        · go_wp2
          go_roundg 1
          case measure => omega
          case rel => exact ⟨1, by omega, by omega, by go_num, rfl⟩
        · go_wp2
          go_roundg 0
          case measure => omega
          case rel => exact ⟨2, by omega, by omega, by go_num, rfl⟩
        · go_wp2
          go_ret
          exact ⟨rfl, rfl⟩
    · go_enter Try.func71, Try.ntmps71
      go_wp2
      go_loopg [5, 8] 2 (fun gg _ s8 wr => ∃ k : Nat, k ≤ 1 ∧ 2 - k ≤ gg ∧ s8 = .int .i64 k ∧ wr = w)
      case atStart => exact ⟨0, by omega, by omega, rfl, rfl⟩
      case round =>
        obtain ⟨k, hk, hg, rfl, rfl⟩ := hrel
        rcases (show k = 0 ∨ k = 1 by omega) with rfl | rfl
        · go_wp2
          go_roundg 1
          case measure => omega
          case rel => exact ⟨1, by omega, by omega, by go_num, rfl⟩
        · go_wp2
          go_ret
          exact ⟨rfl, rfl⟩
  · go_enter Try.func71, Try.ntmps71
    go_wp2
    go_loopg [5, 8] 2 (fun gg _ s8 wr => s8 = .int .i64 0 ∧ wr = w)
    case atStart => exact ⟨rfl, rfl⟩
    case round =>
      obtain ⟨rfl, rfl⟩ := hrel
      go_wp2
      go_ret
      exact ⟨by simp, rfl⟩

theorem or2_at (X : World) (N : Nat) (hN : X.heap.size = N) (c1 c2 : Int) : Calls Try.prog 71 #[.slice (some ⟨N, 0, none⟩) 2 2] (X.alloc (.cells #[.int .i64 c1, .int .i64 c2] 3)).drew fun e w' => e = .returned (.int .i64 (or2 c1 c2)) ∧ (X.alloc (.cells #[.int .i64 c1, .int .i64 c2] 3)).drew = w' := by
  subst hN
  exact or2_calls _ c1 c2 _ (World.cell?_alloc_new _ _ _ 0) (World.cell?_alloc_new _ _ _ 1)

theorem grown3 (W : World) (a b c : Obj) : ∃ q os', (((W.alloc a).alloc b).alloc c).drew = grow (W.drewN q) os' :=
  ⟨1, #[a] ++ #[b] ++ #[c], by rw [alloc_eq_grow, alloc_eq_grow, alloc_eq_grow, grow_grow, grow_grow]; rfl⟩

set_option maxHeartbeats 8000000 in
set_option maxRecDepth 100000 in
theorem cmpA_calls (x y : Int × Int) (W : World) : Calls Try.prog 70 #[.agg (encA x).toArray, .agg (encA y).toArray] W fun e w' => e = .returned (.int .i64 (cfA x y)) ∧ ∃ q os', w' = grow (W.drewN q) os' := by
  obtain ⟨x1, x2⟩ := x
  obtain ⟨y1, y2⟩ := y
  unfold cfA encA
  have hc1 := fun W' => AnyG.cmp_Compare_int Try.cmpInt x1 y1 W'
  change ∀ W', Calls Try.prog 72 _ _ _ at hc1
  have hc2 := fun W' => AnyG.cmp_Compare_int Try.cmpInt x2 y2 W'
  change ∀ W', Calls Try.prog 72 _ _ _ at hc2
  generalize Lib.compareInt x1 y1 = c1 at hc1 ⊢
  generalize Lib.compareInt x2 y2 = c2 at hc2 ⊢
  go_enter Try.func70, Try.ntmps70
  go_wp2
  obtain ⟨Z, hZ⟩ : ∃ Z, Z = (W.alloc (.cells #[.int .i64 x1, .int .i64 x2] 62)).alloc (.cells #[.int .i64 y1, .int .i64 y2] 62) := ⟨_, rfl⟩
  rw [← hZ]
  have q1 : Z.drew.cell? ⟨W.heap.size, 0, none⟩ = some (.int .i64 x1) := by subst hZ; exact (World.cell?_alloc_lt _ _ ⟨W.heap.size, 0, none⟩ (by rw [World.size_alloc]; exact Nat.lt_succ_self _)).trans (World.cell?_alloc_new _ _ _ 0)
  have q2 : Z.drew.cell? ⟨W.heap.size, 1, none⟩ = some (.int .i64 x2) := by subst hZ; exact (World.cell?_alloc_lt _ _ ⟨W.heap.size, 1, none⟩ (by rw [World.size_alloc]; exact Nat.lt_succ_self _)).trans (World.cell?_alloc_new _ _ _ 1)
  have q3 : Z.drew.cell? ⟨W.heap.size + 1, 0, none⟩ = some (.int .i64 y1) := by subst hZ; rw [← World.size_alloc W (.cells #[.int .i64 x1, .int .i64 x2] 62)]; exact World.cell?_alloc_new _ _ _ 0
  have q4 : Z.drew.cell? ⟨W.heap.size + 1, 1, none⟩ = some (.int .i64 y2) := by subst hZ; rw [← World.size_alloc W (.cells #[.int .i64 x1, .int .i64 x2] 62)]; exact World.cell?_alloc_new _ _ _ 1
  have hor := or2_at Z Z.heap.size rfl c1 c2
  have HZ : Hid _ := hZ
  clear hZ
  refine wp_region_still_tail 10 (by kernel_rfl) (by kernel_rfl) ?_
  simp only [List.take_succ_cons, List.take_zero, List.drop_succ_cons, List.drop_zero]
  change wpStill _ _ Z.drew _ _ _
  still_step
  still_step
  still_step
  still_step
  still_call (hc1 _)
  still_step
  still_step
  still_step
  still_step
  still_call (hc2 _)
  refine wpStill_nil ?_
  change wpList _ _ _ _ _ Z.drew
  clear hc1 hc2 q1 q2 q3 q4
  go_wp2_with (go_at_call 71; refine hor.mono ?_; rintro e w' ⟨rfl, rfl⟩)
  clear hor
  go_ret
  refine ⟨rfl, ?_⟩
  rw [HZ.out]
  exact grown3 W _ _ _

end Go.Proofs.Ytcgajgmcjgoipaa.Stab

namespace Go.Proofs.Ytcgajgmcjgoipaa.Stab
open Go.Shelf Go.RowKit Go.Lib Go.Sort Go.Proofs.YtcgajgmcjgoipaaW.PrintWords

def kA : Kd (Int × Int) := Kd.pair (Kd.int .i64) (Kd.int .i64)
theorem kA_M {w : World} {base : Nat} {ok : Nat → Prop} {x : Int × Int} {cs : List Value} : kA.M w base ok x cs ↔ cs = encA x := by
  constructor
  · rintro ⟨c0, c1, rfl, h0, h1⟩
    rw [show c0 = [.int .i64 x.1] from h0, show c1 = [.int .i64 x.2] from h1]
    rfl
  · rintro rfl
    exact ⟨[.int .i64 x.1], [.int .i64 x.2], rfl, rfl, rfl⟩

theorem flatA_get (d : Array (Int × Int)) (j i : Nat) (hj : j < d.size) (hi : i < 2) : (flatK encA 2 d).toList[j * 2 + i]? = (encA d[j]!)[i]? := by
  have ht : j * 2 + i < d.size * 2 := by omega
  have h1 : (flatK encA 2 d)[j * 2 + i]! = (encA d[(j * 2 + i) / 2]!)[(j * 2 + i) % 2]! := get_flatK encA 2 d _ ht
  rw [show (j * 2 + i) / 2 = j by omega, show (j * 2 + i) % 2 = i by omega] at h1
  have hs : j * 2 + i < (flatK encA 2 d).size := by rw [size_flatK]; exact ht
  rw [Array.getElem?_toList, Array.getElem?_eq_getElem hs, ← getElem!_pos (flatK encA 2 d) _ hs, h1]
  rcases (show i = 0 ∨ i = 1 by omega) with rfl | rfl <;> rfl

theorem repsA (d : Array (Int × Int)) {w : World} {base : Nat} {ok : Nat → Prop} : Reps (kA.M w base ok) 2 d.toList (flatK encA 2 d).toList := by
  refine ⟨by simp, fun j p hp => kA_M.2 ?_⟩
  have hj : j < d.size := by simpa using (List.getElem?_eq_some_iff.1 hp).1
  have hd : d[j]! = p := by rw [getElem!_pos d j hj]; rw [Array.getElem?_toList, Array.getElem?_eq_getElem hj] at hp; exact Option.some.inj hp
  have h0 := flatA_get d j 0 hj (by omega)
  have h1 := flatA_get d j 1 hj (by omega)
  rw [hd] at h0 h1
  apply List.ext_getElem?
  intro i
  rcases Nat.lt_or_ge i 2 with hi | hi
  · rw [List.getElem?_take_of_lt hi, List.getElem?_drop]
    rcases (show i = 0 ∨ i = 1 by omega) with rfl | rfl
    · exact h0
    · exact h1
  · rw [List.getElem?_take_eq_none hi, List.getElem?_eq_none (by exact hi)]

theorem holdsA {w : World} {base : Nat} {ok : Nat → Prop} {v : Value} {xs : List (Int × Int)} (h : kA.R 62 w base ok v xs) {g n cap : Nat} (hv : v = .slice (some ⟨g, 0, none⟩) n cap) : HoldsK encA 2 w g 0 xs.toArray := by
  obtain ⟨_, inner, ⟨hl, ho⟩, hr⟩ := h
  rcases ho with ⟨he, _⟩ | ⟨g', cap', cur, he, hg, hh, hn, hc, hs, ht⟩
  · rw [hv] at he; cases he
  · rw [hv] at he
    injection he with he1 he2 he3
    injection he1 with he1
    injection he1 with he1
    subst he1
    intro t htl
    rw [size_flatK, List.size_toArray] at htl
    refine ⟨?_, by simp [World.frozen?, hh]⟩
    have hj : t / 2 < xs.length := by omega
    have hp : kA.M w base (fun k => ok k ∧ some k ≠ v.ownBlock) xs[t / 2] ((inner.drop (t / 2 * 2)).take 2) := hr.2 (t / 2) xs[t / 2] (List.getElem?_eq_getElem hj)
    have ht2 : cur.toList.take (xs.length * 2) = inner := ht
    rw [kA_M] at hp
    have h1 : inner[t]? = (encA xs[t / 2])[t % 2]? := by
      rw [← hp, List.getElem?_take_of_lt (by omega), List.getElem?_drop]
      congr 1; omega
    rw [Nat.zero_add, blk_cell hh, ← Array.getElem?_toList]
    rw [← ht2, List.getElem?_take_of_lt (by omega)] at h1
    rw [h1, get_flatK encA 2 _ t (by simpa using htl)]
    rw [show (xs.toArray)[t / 2]! = xs[t / 2] by simp [hj]]
    rcases (show t % 2 = 0 ∨ t % 2 = 1 by omega) with e | e <;> rw [e] <;> rfl

theorem heap_sortedA {w : World} {g n : Nat} {os : Array Obj} {cur : Array Value} {e : TypeId} {fr : Nat × Nat} (d : Array (Int × Int)) (hb : w.heap[g]? = some (.cells cur e fr)) :
    (sortWorldK encA 2 w g 0 n d os).heap[g]? = some (.cells (putCells id 0 (flatK encA 2 d) cur) e fr) := by
  have hg : g < w.heap.size := (Array.getElem?_eq_some_iff.1 hb).1
  unfold sortWorldK
  rw [heap_grow_old _ _ (by rw [size_putRowK]; exact hg)]
  simp [putRowK, putRow, mapBlock, Sort.ahead, Array.getElem?_modify, hb, onCells]

theorem grownBy_sortedA {w : World} {g n : Nat} {os : Array Obj} (d : Array (Int × Int)) : w.grownBy (sortWorldK encA 2 w g 0 n d os) (some g) := by
  unfold sortWorldK
  refine ⟨rfl, rfl, rfl, by rw [size_grow, size_putRowK]; exact Nat.le_add_right _ _, fun k hk hne => ?_⟩
  rw [heap_grow_old _ _ (by rw [size_putRowK]; exact hk)]
  have : g ≠ k := fun e => hne (by rw [e])
  simp [putRowK, putRow, mapBlock, Sort.ahead, Array.getElem?_modify, this]

theorem take_putA (cur F : Array Value) (h : F.size ≤ cur.size) : (putCells id 0 F cur).toList.take F.size = F.toList := by
  apply List.ext_getElem?
  intro j
  by_cases hj : j < F.size
  · rw [List.getElem?_take_of_lt hj, Array.getElem?_toList]
    simp [putCells, hj, show j < cur.size by omega]
  · rw [List.getElem?_take_eq_none (by omega), List.getElem?_eq_none (by simp; omega)]

/-- Behind the sort the same slice owns the sorted list. -/
theorem sortedA {w : World} {base : Nat} {ok : Nat → Prop} {v : Value} {xs : List (Int × Int)} (h : kA.R 62 w base ok v xs) {g cap : Nat} (hv : v = .slice (some ⟨g, 0, none⟩) xs.length cap)
    {n : Nat} {os : Array Obj} {d : Array (Int × Int)} (hd : d.size = xs.length) : kA.R 62 (sortWorldK encA 2 w g 0 n d os) base ok v d.toList := by
  obtain ⟨hok, inner, ⟨hl, ho⟩, hr⟩ := h
  refine ⟨hok, (flatK encA 2 d).toList, ?_, repsA d⟩
  rcases ho with ⟨he, _⟩ | ⟨g', cap', cur, he, hg, hh, hn, hc, hs, ht⟩
  · rw [hv] at he; cases he
  · rw [hv] at he
    injection he with he1 he2 he3
    injection he1 with he1
    injection he1 with he1
    subst he1 he3
    have hs2 : cur.size = cap * 2 := hs
    have hdl : d.toList.length = xs.length := by rw [Array.length_toList]; exact hd
    refine ⟨by simp; rfl, .inr ⟨g, cap, _, by rw [hv, hdl], hg, heap_sortedA d hh, by rw [hdl]; exact hn, hc, by simp only [putCells, Array.size_mapIdx]; exact hs, ?_⟩⟩
    have := take_putA cur (flatK encA 2 d) (by rw [size_flatK]; omega)
    rwa [size_flatK] at this

/-! ### The order -/
theorem cfA_neg (x y : Int × Int) : cfA x y < 0 ↔ x.1 < y.1 ∨ (x.1 = y.1 ∧ x.2 < y.2) := by
  unfold cfA or2 Lib.compareInt
  repeat' split
  all_goals omega
theorem ltA (x y : Int × Int) : ltOf cfA x y = true ↔ x.1 < y.1 ∨ (x.1 = y.1 ∧ x.2 < y.2) := by
  unfold ltOf
  rw [decide_eq_true_eq]
  exact cfA_neg x y
theorem ltA_false (x y : Int × Int) : ltOf cfA x y = false ↔ y.1 < x.1 ∨ (x.1 = y.1 ∧ y.2 ≤ x.2) := by
  rw [← Bool.not_eq_true, ltA]
  omega
theorem swoA : SWO (ltOf cfA) where
  irrefl x := by rw [ltA_false]; omega
  trans x y z := by rw [ltA, ltA, ltA]; omega
  ntrans x y z := by rw [ltA_false, ltA_false, ltA_false]; omega
theorem ltA_eq (x y : Int × Int) (h1 : ltOf cfA x y = false) (h2 : ltOf cfA y x = false) : x = y := by
  rw [ltA_false] at h1 h2
  exact Prod.ext (by omega) (by omega)

theorem cmpLaysA (blk off size : Nat) (w : World) : CmpLays Try.prog 70 #[] encA 2 cfA blk off size w := fun _ _ _ _ x y => cmpA_calls x y _

theorem rowA {w : World} {g : Nat} {xs : Array (Int × Int)} (h : HoldsK encA 2 w g 0 xs) (hg : g < w.heap.size) : RowK encA 2 w g 0 xs where
  hk := fun _ => rfl
  h1 := fun x v hv => by
    simp only [encA, List.mem_cons, List.not_mem_nil, or_false] at hv
    rcases hv with rfl | rfl <;> rfl
  hH := h
  hblk := hg

theorem insA {w0 : World} {g cap : Nat} {d0 : Array (Int × Int)} (R : RowK encA 2 w0 g 0 d0) : Ins Try.prog 2 encA cfA 70 #[] g 0 cap d0 w0 := by
  intro a b d w hs S hab hb hsz
  have hp := insertionSort_holds swoA d a b hab hb
  have hC : CmpLays Try.prog 70 #[] encA 2 cfA g 0 d.size w := cmpLaysA _ _ _ _
  have h := AnyQ.insertionSortCmpFunc Try.insArr 2 Try.isAgg62 Try.sizeOf62 encA R.hk R.h1 cfA 70 #[] g 0 cap a b d w (enters_of Try.func70 (by kernel_rfl) rfl) hC (S.holds R.hblk R.hH hs.symm) (S.lt R.hblk) hab hb hsz
  refine Calls.mono h ?_
  rintro e w' ⟨rfl, n, os, rfl⟩
  exact ⟨rfl, _, S.on R.hblk n _ os hp.1.1, hp.1, hp.2⟩

/-- slices.SortStableFunc over arrivals. -/
theorem sortA {w : World} {base : Nat} {ok : Nat → Prop} {xs : List (Int × Int)} {g cap : Nat} (h : kA.R 62 w base ok (.slice (some ⟨g, 0, none⟩) xs.length cap) xs) (hg : g < w.heap.size) (hsz : xs.length < 1152921504606846976) :
    Calls Try.prog 69 #[.slice (some ⟨g, 0, none⟩) xs.length cap, .func (.func 70) #[] #[]] w fun e w' =>
      e = .returned (.tuple #[]) ∧ kA.R 62 w' base ok (.slice (some ⟨g, 0, none⟩) xs.length cap) (xs.mergeSort fun x y => !ltOf cfA y x) ∧ w.grownBy w' (some g) := by
  have hH := holdsA h rfl
  have R := rowA hH hg
  have hz : xs.toArray.size = xs.length := by simp
  have hc := sortStable Try.func69 facts encA cfA swoA 70 #[] (enters_of Try.func70 (by kernel_rfl) rfl) g 0 cap xs.toArray w (cmpLaysA _ _ _ _) R (insA R) (SWK.start hH) (by rw [hz]; exact hsz)
  rw [hz] at hc
  refine hc.mono ?_
  rintro e w' ⟨rfl, d', ⟨n, os, rfl⟩, hP, hS⟩
  have hu := sorted_unique_holds swoA ltA_eq xs.toArray d' (by rw [hz]; exact hP) (by rw [hz]; exact hS)
  refine ⟨rfl, ?_, grownBy_sortedA d'⟩
  have := sortedA h rfl (n := n) (os := os) (hP.1.trans hz)
  rwa [hu] at this

end Go.Proofs.Ytcgajgmcjgoipaa.Stab
