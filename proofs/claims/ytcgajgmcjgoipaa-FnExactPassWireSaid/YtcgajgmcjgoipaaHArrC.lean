/-
  impl.mapped over arrivals: their numbers.
  impl.ArrivalsOf: what is pushed, sorted, and told by its numbers.
-/
import Derived.Test.YtcgajgmcjgoipaaHArrA
import Derived.Test.YtcgajgmcjgoipaaHandBase
import Derived.Test.YtcgajgmcjgoipaaWMore
import Derived.Test.YtcgajgmcjgoipaaWLast
namespace Go.Proofs.Ytcgajgmcjgoipaa.Stab
open Go.Shelf Go.RowKit Go.Lib Go.Sort Go.Proofs.YtcgajgmcjgoipaaW.PrintWords Go.Proofs.YtcgajgmcjgoipaaW.PrintLast Go.Proofs.YtcgajgmcjgoipaaW.PrintMore

theorem info_int : (Try.prog.info? 3).map (fun i => (i.zero, i.size, i.bytes)) = some (some (.int .i64 0), 1, 8) := by kernel_rfl
theorem info_arr : (Try.prog.info? 62).map (fun i => (i.zero, i.size, i.bytes)) = some (some (.agg #[.int .i64 0, .int .i64 0]), 2, 16) := by kernel_rfl

theorem atA {w : World} {A : Option Addr} {n : Nat} {xs : List (Int × Int)} (h : kA.C w A n xs) (hA : ∀ ad, A = some ad → ∃ g, ad = ⟨g, 0, none⟩) (k : Nat) (hk : k < n) :
    ∃ g, A = some ⟨g, 0, none⟩ ∧ w.cell? ⟨g, k * 2, none⟩ = some (.int .i64 (xs.getD k (0, 0)).1) ∧ w.cell? ⟨g, k * 2 + 1, none⟩ = some (.int .i64 (xs.getD k (0, 0)).2) := by
  obtain ⟨hl, hm, hr⟩ := h
  obtain ⟨ad, rfl, hc⟩ := hr (by omega)
  obtain ⟨g, rfl⟩ := hA ad rfl
  obtain ⟨c, _, ⟨c0, c1, rfl, h0, h1⟩, hcell⟩ := hc k (xs[k]'(by omega)) (List.getElem?_eq_getElem (by omega))
  rw [show c0 = [.int .i64 (xs[k]'(by omega)).1] from h0, show c1 = [.int .i64 (xs[k]'(by omega)).2] from h1] at hcell
  rw [List.getD_eq_getElem?_getD, List.getElem?_eq_getElem (by omega)]
  have e0 := hcell 0 _ rfl
  have e1 := hcell 1 _ rfl
  rw [add_plain] at e0 e1
  exact ⟨g, rfl, e0, e1⟩

theorem indexA_calls (x y : Int) (W : World) : Calls Try.prog 74 #[.agg #[.int .i64 x, .int .i64 y]] W fun e w' => e = .returned (.int .i64 y) ∧ w' = W.alloc (.cells #[.int .i64 x, .int .i64 y] 62) := by
  go_enter Try.func74, Try.ntmps74
  go_wp2
  go_ret
  exact ⟨rfl, rfl⟩

set_option maxHeartbeats 4000000 in
set_option maxRecDepth 100000 in
theorem mappedA_calls (A : Option Addr) (c : Nat) (xs : List (Int × Int)) (w : World) (hC : kA.C w A xs.length xs) (hA : ∀ ad, A = some ad → ∃ g, ad = ⟨g, 0, none⟩) (hm : xs.length ≤ 1000000) :
    Calls Try.prog 73 #[.slice A xs.length c, .func (.func 74) #[] #[]] w fun e w' =>
      ∃ v0_ : Value, e = .returned v0_ ∧ Kd.R (Kd.int .i64) 3 w' w.heap.size (fun _ => True) v0_ (xs.map (·.2)) ∧ Below w.heap.size w w' := by
  have e74 : ∀ args w, (callFunc 74 args).run Try.prog w = .ok (.enter 74 args) w := enters_of Try.func74 (by kernel_rfl) rfl
  have HC := Aside0.mk hC
  have HA := Aside0.mk hA
  clear hC hA
  obtain ⟨n, hn⟩ : ∃ n, n = xs.length := ⟨_, rfl⟩
  have HN := Aside0.mk hn
  rw [← hn] at hm ⊢
  clear hn
  go_enter Try.func73, Try.ntmps73
  go_wp2
  go_loopg [5, 10] n (fun gg s5 s10 wr => ∃ (k : Nat) (v : Value), v = s5 ∧ k ≤ n ∧ n - k ≤ gg ∧ s10 = .int .i64 k ∧ Aside0 (Kd.R (Kd.int .i64) 3 wr w.heap.size (fun _ => True) v ((xs.take k).map (·.2))) ∧ Aside0 (Below w.heap.size w wr))
  case atStart => exact ⟨0, _, rfl, Nat.zero_le _, Nat.le_refl _, rfl, ⟨Kd.R_nil _ _ _ _ _⟩, ⟨Below.refl _ _⟩⟩
  case round =>
    obtain ⟨k, v, rfl, hk, hg, rfl, HO, HB⟩ := hrel
    by_cases hlt : k < n
    · have hltz : (k : Int) < (n : Int) := by omega
      obtain ⟨g, rfl, h0, h1⟩ := atA (Kd.C_below HC.out HB.out) HA.out k (by have := HN.out; omega)
      generalize hx : xs.getD k (0, 0) = x at h0 h1
      have HX := Aside0.mk hx
      clear hx
      obtain ⟨x1, x2⟩ := x
      simp only at h0 h1
      go_wp2_with (first | (go_at_fn 74; refine (indexA_calls x1 x2 _).mono ?_; rintro e w' ⟨rfl, rfl⟩) | ((with_reducible refine gate_builtin (b := .append) (xs := #[.tmp 14, .tmp 18]) rfl ?_); at_builtin; refine Kd.R_append (Kd.int .i64) (w0 := w) w.heap.size rfl (.tmp 14) (.tmp 18) 22 3 (.int .i64 0) 8 rfl Try.underlying22 info_int rfl (by decide) (by omega) v ((xs.take k).map (·.2)) x2 [.int .i64 x2] (fun _ => True) (fun _ => False) rfl (by simp only [World.size_alloc]; rfl) rfl (fun _ hk => hk.elim) (fun _ _ => trivial) ?aO ?aB ?aS ?aL ?_; (case aO => repeat (first | exact HO.out | apply Kd.R_alloc)); (case aB => repeat (first | exact HB.out | apply below_alloc)); (case aS => exact below_size (by repeat (first | exact HB.out | apply below_alloc))); (case aL => have := HN.out; simp only [List.length_map, List.length_take]; omega); intro v1 w1 ho hb hg2 hat; have HO1 := Aside0.mk ho; have HB1 := Aside0.mk hb; clear ho hb hg2 hat))
      go_roundg (n - (k + 1))
      case measure => omega
      case rel =>
        refine ⟨k + 1, v1, rfl, by omega, Nat.le_refl _, by go_num, ⟨?_⟩, HB1⟩
        have := HO1.out
        have hN := HN.out
        rwa [show (xs.take k).map (·.2) ++ [x2] = (xs.take (k + 1)).map (·.2) by
          have hk2 : k < xs.length := by omega
          rw [List.take_add_one, List.map_append, List.getElem?_eq_getElem hk2]
          have := HX.out
          rw [List.getD_eq_getElem?_getD, List.getElem?_eq_getElem hk2] at this
          simp only [Option.getD_some] at this
          simp [this]] at this
    · have hltz : ¬ (k : Int) < (n : Int) := by omega
      obtain rfl : k = n := by omega
      go_wp2
      go_ret
      refine ⟨_, rfl, ?_, HB.out⟩
      have := HO.out
      have hN := HN.out
      rwa [List.take_of_length_le (by omega)] at this

end Go.Proofs.Ytcgajgmcjgoipaa.Stab

namespace Go.Proofs.Ytcgajgmcjgoipaa.Stab
open Go.Shelf Go.RowKit Go.Lib Go.Sort Go.Proofs.YtcgajgmcjgoipaaW.PrintWords Go.Proofs.YtcgajgmcjgoipaaW.PrintLast Go.Proofs.YtcgajgmcjgoipaaW.PrintMore

/-- The fate of a message. -/
def fateV (l : List Int) (i : Int) : Int := if i < (l.length : Int) then rd l i else 0
/-- What one message lays: its time and its number, not at all, once or twice. -/
def pushF (f k : Int) : List (Int × Int) := if f = 1 then [] else if f = 2 then [(2 * k, k), (2 * k, k)] else if f = 3 then [(2 * k + 3, k)] else [(2 * k, k)]
def pushes (l : List Int) : Nat → List (Int × Int)
  | 0 => []
  | k + 1 => pushes l k ++ pushF (fateV l (k : Int)) (k : Int)
/-- Which messages arrive, in order. -/
def arr (l : List Int) (n : Nat) : List Int := ((pushes l n).mergeSort fun x y => !ltOf cfA y x).map (·.2)

theorem pushF_len (f k : Int) : (pushF f k).length ≤ 2 := by
  unfold pushF
  repeat' split
  all_goals simp
theorem pushes_len (l : List Int) (n : Nat) : (pushes l n).length ≤ 2 * n := by
  induction n with
  | zero => simp [pushes]
  | succ n ih =>
    have := pushF_len (fateV l (n : Int)) (n : Int)
    rw [pushes, List.length_append]
    omega

theorem pushes_num {l : List Int} {n : Nat} {x : Int × Int} (h : x ∈ pushes l n) : ∃ k : Nat, k < n ∧ x.2 = k := by
  induction n with
  | zero => simp [pushes] at h
  | succ n ih =>
    rw [pushes, List.mem_append] at h
    rcases h with h | h
    · obtain ⟨k, hk, e⟩ := ih h
      exact ⟨k, by omega, e⟩
    · refine ⟨n, by omega, ?_⟩
      unfold pushF at h
      split at h
      · cases h
      · split at h
        · have : x = (2 * (n : Int), (n : Int)) := by simpa using h
          rw [this]
        · split at h
          · rw [List.mem_singleton.1 h]
          · rw [List.mem_singleton.1 h]

/-- A store into a box that is younger than the row. -/
theorem R_box {α : Type} {d : Kd α} {e base : Nat} {ok : Nat → Prop} {w W : World} {v : Value} {xs : List α} (h : d.R e w base ok v xs) (hb : Below w.heap.size w W) (g j : Nat) (hg : g = w.heap.size) (u : Value) : d.R e (W.setCell ⟨g, j, none⟩ u) base ok v xs := by
  have h1 : d.R e w base (fun k => ok k ∧ k < w.heap.size) v xs := Kd.R_mono (Kd.R_bound h) (fun k hk => ⟨hk.1, hk.2.2.1⟩)
  exact Kd.R_mono (Kd.R_far (p := ⟨g, j, none⟩) (Kd.R_below h1 hb) (fun k hk e => by have := hk.2; simp only at e; omega) u) (fun _ hk => hk.1)

set_option maxHeartbeats 1000000 in
theorem ins_nil (c : Nat) (W : World) : Calls Try.prog 97 #[.slice none 0 c, .int .i64 0, .int .i64 0, .func (.func 70) #[] #[]] W fun e w' => e = .returned (.tuple #[]) ∧ W = w' := by
  go_enter Try.func97, Try.ntmps97
  go_wp2
  go_loopg [8] 1 (fun gg s8 wr => s8 = .int .i64 1 ∧ wr = W)
  case atStart => exact ⟨rfl, rfl⟩
  case round =>
    obtain ⟨rfl, rfl⟩ := hrel
    go_wp2
    go_end0
    exact ⟨rfl, rfl⟩
set_option maxHeartbeats 1000000 in
theorem stable_nil (c : Nat) (W : World) : Calls Try.prog 93 #[.slice none 0 c, .int .i64 0, .func (.func 70) #[] #[]] W fun e w' => e = .returned (.tuple #[]) ∧ W = w' := by
  go_enter Try.func93, Try.ntmps93
  go_wp2
  go_loopg [7, 8] 1 (fun gg s7 s8 wr => s7 = .int .i64 0 ∧ s8 = .int .i64 20 ∧ W = wr)
  case atStart => exact ⟨rfl, rfl, rfl⟩
  case round =>
    obtain ⟨rfl, rfl, rfl⟩ := hrel
    go_wp2_with (go_at_call 97; refine (ins_nil _ _).mono ?_; rintro e w' ⟨rfl, rfl⟩)
    go_loopg [6] 1 (fun gg s6 wr => s6 = .int .i64 20 ∧ W = wr)
    case atStart => exact ⟨rfl, rfl⟩
    case round =>
      obtain ⟨rfl, rfl⟩ := hrel
      go_wp2
      go_end0
      exact ⟨rfl, rfl⟩
theorem sort_nil (c : Nat) (W : World) : Calls Try.prog 69 #[.slice none 0 c, .func (.func 70) #[] #[]] W fun e w' => e = .returned (.tuple #[]) ∧ W = w' := by
  go_enter Try.func69, Try.ntmps69
  go_wp2_with (go_at_call 93; refine (stable_nil _ _).mono ?_; rintro e w' ⟨rfl, rfl⟩)
  go_end0
  exact ⟨rfl, rfl⟩

/-- The sort of a row of the call's own, nil or not. -/
theorem sortR {w : World} {base : Nat} {v : Value} {xs : List (Int × Int)} (h : kA.R 62 w base (fun _ => True) v xs) (hsz : xs.length < 1152921504606846976) :
    Calls Try.prog 69 #[v, .func (.func 70) #[] #[]] w fun e w' =>
      e = .returned (.tuple #[]) ∧ kA.R 62 w' base (fun _ => True) v (xs.mergeSort fun x y => !ltOf cfA y x) ∧ w.grownBy w' v.ownBlock := by
  obtain ⟨inner, hl, ho⟩ := Kd.R_own h
  rcases ho with ⟨rfl, hn⟩ | ⟨g, cap, cur, rfl, hg, hh, _⟩
  · obtain rfl : xs = [] := List.eq_nil_of_length_eq_zero hn
    refine (sort_nil 0 w).mono ?_
    rintro e w' ⟨rfl, rfl⟩
    exact ⟨rfl, by rw [List.mergeSort_nil]; exact h, ⟨rfl, rfl, rfl, Nat.le_refl _, fun _ _ _ => rfl⟩⟩
  · exact sortA h (Array.getElem?_eq_some_iff.1 hh).1 hsz

end Go.Proofs.Ytcgajgmcjgoipaa.Stab
