import Derived.RangeFuncNested
import Derived.RangeFuncBound
import Derived.RangeFuncCalls
import Derived.RangeFuncLeaves
import Derived.RangeFuncBox
import Derived.Shelf.Abstract
import Derived.Shelf.RegionOpen
import Derived.WalkKit
import Derived.OwnWalkIn
import Derived.TacticsInMore
import Derived.LoopNIn
import Derived.LoopIn
import Derived.Maps.AppendAt
import Derived.Test.YtpifogfnafogaaaDoorHandBase
import Derived.Test.YtpifogfnafogaaaDoorProg
namespace Go.Proofs.YtpifogfnafogaaaDoor.Base
open Go.RowKit Go.Shelf Go.Proofs.YtpifogfnafogaaaDoorW.PrintWords

attribute [local go_sem] Oper.semAt_some

/-- The slice of the chunk j. -/
def chunkV (ad : Addr) (m : Nat) (j : Nat) : Value := .slice (some (ad.add (m * j))) m m
/-- What a round must keep: the two boxes of the iterator. -/
def KpB (Bs Bm : Nat) (W W' : World) : Prop := ∀ B, (B = Bs ∨ B = Bm) → ∀ t v, Boxed W B t v → Boxed W' B t v
theorem kpB_t {Bs Bm : Nat} {A B C : World} (h : KpB Bs Bm A B) (k : KpB Bs Bm B C) : KpB Bs Bm A C := fun b hb t v hv => k b hb t v (h b hb t v hv)
theorem boxed_putObj {W : World} {B : Nat} {t : TypeId} {v : Value} (h : Boxed W B t v) {l : Nat} {o : Obj} (o' : Obj) (hl : W.heap[l]? = some o) (hc : o.isCells = false) : Boxed (W.putObj l o') B t v :=
  h.kept (grownBy_putObj' W l o') (fun e => by obtain rfl : B = l := Option.some.inj e; rw [show W.heap[B]? = _ from h] at hl; cases hl; cases hc)
theorem kpB_b {Bs Bm : Nat} {w : World} (W : World) (l : Nat) (o o' : Obj) (_ : w.heap.size ≤ l) (hl : W.heap[l]? = some o) (hc : o.isCells = false) (_ : o.isWalk = false) : KpB Bs Bm W (W.putObj l o') := fun _ _ _ _ h => boxed_putObj h o' hl hc
theorem own_boxed {β : Type} (B : Nat) (t : TypeId) (v : Value) : Own (fun (_ : β) W => Boxed W B t v) := by
  rintro s X Y row h hg hrow
  refine h.kept hg (fun e => ?_)
  obtain ⟨o, ho, hc⟩ := hrow B e.symm
  rw [show X.heap[B]? = _ from h] at ho
  cases ho
  cases hc
theorem fin_snoc (N k : Nat) (h : k < N) : (List.finRange N).take (k + 1) = (List.finRange N).take k ++ [⟨k, h⟩] := by
  rw [List.take_succ_eq_append_getElem (by simpa using h)]
  simp
theorem fin_len (N k : Nat) (h : k ≤ N) : ((List.finRange N).take k).length = k := by simp; omega
theorem fin_all (N : Nat) : (List.finRange N).take N = List.finRange N := List.take_of_length_le (by simp)

set_option maxRecDepth 100000 in
set_option maxHeartbeats 2000000 in
theorem chunk_maker (A : Option Addr) (n c : Nat) (m : Nat) (hm : 1 ≤ m) (w : World) :
    Calls Tryd.prog 39 #[.slice A n c, .int .i64 m] w fun e w' => e = .returned (.func (.func 44) #[] #[.pointer (some ⟨w.heap.size, 0, none⟩), .pointer (some ⟨w.heap.size + 1, 0, none⟩)]) ∧ w' = (w.alloc (.cells #[.slice A n c] 26)).alloc (.cells #[.int .i64 m] 3) := by
  go_enter Tryd.func39, Tryd.ntmps39
  go_wp2
  go_ret
  exact ⟨rfl, rfl⟩

set_option maxRecDepth 100000 in
set_option maxHeartbeats 2000000 in
theorem chunk_in (F : Fence) (n : Nat) (h7 : F.fn 44) (hro : F.round = none) (hn : 1 ≤ n) (l Bs Bm : Nat) (ad : Addr) (m N cap : Nat) (hm : 1 ≤ m) (hm2 : m ≤ 1000) (hcap : m * N ≤ cap) (hreach : m * N ≤ 17592186044416) (J Jx : List (Fin N) → World → Prop)
    (hJd : ∀ s W, J s W → J s W.drew)
    (hY : ∀ pre x W, J pre W → pre.length < N → YieldAt F (n - 1) Tryd.prog l #[chunkV ad m x.1] W fun e W' =>
      (e = .returned (.bool true) ∧ J (pre ++ [x]) W' ∧ KpB Bs Bm W W') ∨ (e = .returned (.bool false) ∧ Jx (pre ++ [x]) W'))
    (W : World) (hBs : Boxed W Bs 26 (.slice (some ad) (m * N) cap)) (hBm : Boxed W Bm 3 (.int .i64 m)) (h0 : J [] W) :
    CallsIn F n Tryd.prog 44 #[.func (.yield l) #[] #[], .pointer (some ⟨Bs, 0, none⟩), .pointer (some ⟨Bm, 0, none⟩)] W fun e W' => (∃ v, e = .returned v) ∧
      ((∃ ys, ys = List.finRange N ∧ J ys W') ∨ (∃ pre, (∃ k, k ≤ N ∧ pre = (List.finRange N).take k) ∧ Jx pre W')) := by
  refine callsIn_of_wp Tryd.func44 rfl h7 ?_ hro
  simp only [Tryd.ntmps44, List.size_toArray, List.length_cons, List.length_nil, Nat.reduceAdd, Nat.reduceSub, Array.replicate_succ, Array.replicate_zero, List.push_toArray, List.append_toArray, List.nil_append, List.cons_append]
  obtain ⟨L, hL⟩ : ∃ L, L = m * N := ⟨_, rfl⟩
  rw [← hL] at hBs hcap hreach
  have HL := Aside0.mk hL
  clear hL
  have hs0 := hBs.cell
  have hm0 := hBm.cell
  gi_wp2
  gi_loopw [4, 5] (fun i _ wr => ∃ k : Nat, k ≤ N ∧ ∃ q : Nat, Aside0 (q = m * k) ∧ i = .int .i64 q ∧ J ((List.finRange N).take k) wr ∧ Boxed wr Bs 26 (.slice (some ad) L cap) ∧ Boxed wr Bm 3 (.int .i64 m))
    (fun i _ _ => L - (intOf i).toNat)
  case atStart => exact ⟨0, Nat.zero_le _, 0, ⟨by simp⟩, rfl, h0, hBs, hBm⟩
  case round =>
    obtain ⟨k, hk, q, hq, rfl, hJs, hn1, hn2⟩ := hrel
    have hc1 := hn1.cell
    have hc2 := hn2.cell
    by_cases hlt : k < N
    · have hqL : q + m ≤ L := by have := hq.out; have := HL.out; subst_vars; have := Nat.mul_le_mul_left m hlt; rw [Nat.mul_succ] at this; exact this
      have f1 : q < L := by omega
      have f2 : q ≤ cap := by omega
      have f3 : ¬ cap = q := by omega
      have f4 : (q : Int) + (m : Int) ≤ L := by omega
      have f5 : ¬ L - q < m := by omega
      obtain ⟨fn, tmps, assign, body, hy, hR⟩ := hY _ ⟨k, hlt⟩ wr.drew (hJd _ _ hJs) (by rw [fin_len _ _ hk]; exact hlt)
      rw [show chunkV ad m (⟨k, hlt⟩ : Fin N).1 = .slice (some (ad.add q)) m m by unfold chunkV; rw [hq.out]] at hy
      gi_wp2
      gi_region
      all_goals
        gi_wp2
        refine hR.mono ?_
        rintro e W3 (⟨rfl, hJ3, hk3⟩ | ⟨rfl, hJx3⟩)
        · have hn3 := hk3 Bs (.inl rfl) _ _ (show Boxed wr.drew Bs 26 _ from hn1)
          have hn4 := hk3 Bm (.inr rfl) _ _ (show Boxed wr.drew Bm 3 _ from hn2)
          have hc3 := hn4.cell
          gi_wp2
          go_roundw
          case rel => exact ⟨k + 1, by omega, q + m, ⟨by rw [hq.out, Nat.mul_succ]⟩, by go_num, by rw [fin_snoc _ _ hlt]; exact hJ3, hn3, hn4⟩
          case measure => simp [intOf]; omega
        · gi_wp2
          refine bodyPost_ret (results_none rfl _ _ _) rfl ?_
          exact ⟨⟨_, rfl⟩, .inr ⟨_, ⟨k + 1, by omega, (fin_snoc _ _ hlt).symm⟩, hJx3⟩⟩
    · obtain rfl : k = N := by omega
      have f1 : q = L := by rw [hq.out, HL.out]
      subst f1
      gi_wp2
      go_end0
      exact ⟨⟨_, rfl⟩, .inl ⟨_, rfl, by rw [fin_all] at hJs; exact hJs⟩⟩
set_option maxRecDepth 100000 in
set_option maxHeartbeats 2000000 in
theorem chunk0_in (F : Fence) (n : Nat) (h7 : F.fn 44) (hro : F.round = none) (l Bs Bm : Nat) (A : Option Addr) (cap : Nat) {α : Type} (J : List α → World → Prop)
    (W : World) (hBs : W.cell? ⟨Bs, 0, none⟩ = some (.slice A 0 cap)) (h0 : J [] W) :
    CallsIn F n Tryd.prog 44 #[.func (.yield l) #[] #[], .pointer (some ⟨Bs, 0, none⟩), .pointer (some ⟨Bm, 0, none⟩)] W fun e W' => (∃ v, e = .returned v) ∧ J [] W' := by
  refine callsIn_of_wp Tryd.func44 rfl h7 ?_ hro
  simp only [Tryd.ntmps44, List.size_toArray, List.length_cons, List.length_nil, Nat.reduceAdd, Nat.reduceSub, Array.replicate_succ, Array.replicate_zero, List.push_toArray, List.append_toArray, List.nil_append, List.cons_append]
  gi_wp2
  gi_loopw [4, 5] (fun i _ wr => i = .int .i64 0 ∧ wr.cell? ⟨Bs, 0, none⟩ = some (.slice A 0 cap) ∧ J [] wr) (fun _ _ _ => 0)
  case atStart => exact ⟨rfl, hBs, h0⟩
  case round =>
    obtain ⟨rfl, hcs, hJs⟩ := hrel
    gi_wp2
    go_end0
    exact ⟨⟨_, rfl⟩, hJs⟩
theorem chunk_stops (F : Fence) (n : Nat) (h7 : F.fn 44) (hro : F.round = none) (hn : 1 ≤ n) (Bs Bm : Nat) (A : Option Addr) (ad : Addr) (m N cap : Nat) (hm : 1 ≤ m) (hm2 : m ≤ 1000) (hA : 0 < N → A = some ad) (len : Nat) (hlen : len = m * N) (hcap : len ≤ cap) (hreach : len ≤ 17592186044416) (w : World)
    (hBs : Boxed w Bs 26 (.slice A len cap)) (hBm : Boxed w Bm 3 (.int .i64 m)) :
    SeqStopsK F n Tryd.prog 44 #[.pointer (some ⟨Bs, 0, none⟩), .pointer (some ⟨Bm, 0, none⟩)] (fun x : Fin N => #[chunkV ad m x.1]) (KpB Bs Bm) (fun ys => ys = List.finRange N) (fun pre => ∃ k, k ≤ N ∧ pre = (List.finRange N).take k) N w := fun l J Jx W hW hJ _ hY h0 => by
  subst hlen
  have c1 : Boxed W Bs 26 (.slice A (m * N) cap) := (hW.block Bs hBs.lt).trans hBs
  have c2 : Boxed W Bm 3 (.int .i64 m) := (hW.block Bm hBm.lt).trans hBm
  rcases Nat.eq_zero_or_pos N with h | h
  · subst h
    exact (chunk0_in F n h7 hro l Bs Bm A cap J W c1.cell h0).mono fun e W' ⟨he, hj⟩ => ⟨he, .inl ⟨_, rfl, hj⟩⟩
  · rw [hA h] at c1
    exact chunk_in F n h7 hro hn l Bs Bm ad m N cap hm hm2 hcap hreach J Jx (fun s W1 hs => hJ s W1 W1.drew none hs ⟨rfl, rfl, rfl, Nat.le_refl _, fun _ _ _ => rfl⟩ (fun r e => by cases e)) hY W c1 c2 h0
end Go.Proofs.YtpifogfnafogaaaDoor.Base
