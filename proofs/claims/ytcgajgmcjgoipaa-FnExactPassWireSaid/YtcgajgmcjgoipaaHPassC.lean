/-
  impl.mapped over numbers with a function that makes rows.
  impl.PassWire, walked.
  laws.markByteSS over a row of rows of the call's own, no two of which are one: each is marked in turn.
-/
import Derived.Test.YtcgajgmcjgoipaaHPassA
import Derived.Test.YtcgajgmcjgoipaaWKept
set_option linter.unusedSimpArgs false
namespace Go.Proofs.Ytcgajgmcjgoipaa.Base
open Go.RowKit Go.Proofs.YtcgajgmcjgoipaaW.PrintWords Go.Proofs.YtcgajgmcjgoipaaW.PrintLast Go.Proofs.YtcgajgmcjgoipaaW.PrintMore

theorem info_row : (Try.prog.info? 26).map (fun i => (i.zero, i.size, i.bytes)) = some (some (.slice none 0 0), 1, 24) := by kernel_rfl

set_option maxHeartbeats 4000000 in
set_option maxRecDepth 100000 in
theorem mappedL_calls (g : Nat) (lb : Array Value) (eg : ∀ args w, (callFunc g args).run Try.prog w = .ok (.enter g args) w) (F : Int → List Int) (A : Option Addr) (c : Nat) (xs : List Int) (w : World) (hC : Kd.C (Kd.int .i64) w A xs.length xs) (hm : xs.length ≤ 1000000)
    (hg : ∀ (k : Nat) (W : World), k < xs.length → Below w.heap.size w W → Calls Try.prog g (#[.int .i64 (rd xs (k : Int))] ++ lb) W fun e w' => ∃ v : Value, e = .returned v ∧ Kd.R (Kd.int .u8) 5 w' W.heap.size (fun _ => True) v (F (rd xs (k : Int))) ∧ Below W.heap.size W w') :
    Calls Try.prog 62 #[.slice A xs.length c, .func (.func g) #[] lb] w fun e w' =>
      ∃ v0_ : Value, e = .returned v0_ ∧ Kd.S dL 26 w' w.heap.size (fun _ => True) v0_ (xs.map F) ∧ Below w.heap.size w w' := by
  have HC := Aside0.mk hC
  have HG := Aside0.mk hg
  clear hC hg
  obtain ⟨n, hn⟩ : ∃ n, n = xs.length := ⟨_, rfl⟩
  have HN := Aside0.mk hn
  rw [← hn] at hm ⊢
  clear hn
  go_enter Try.func62, Try.ntmps62
  go_wp2
  go_loopg [5, 10] n (fun gg s5 s10 wr => ∃ (k : Nat) (v : Value), v = s5 ∧ k ≤ n ∧ n - k ≤ gg ∧ s10 = .int .i64 k ∧ Aside0 (Kd.S dL 26 wr w.heap.size (fun _ => True) v ((xs.take k).map F)) ∧ Aside0 (Below w.heap.size w wr))
  case atStart => exact ⟨0, _, rfl, Nat.zero_le _, Nat.le_refl _, rfl, ⟨Kd.S_nil _ _ _ _ _⟩, ⟨Below.refl _ _⟩⟩
  case round =>
    obtain ⟨k, v, rfl, hk, hgg, rfl, HO, HB⟩ := hrel
    by_cases hlt : k < n
    · have hltz : (k : Int) < (n : Int) := by omega
      obtain ⟨ad, rfl, hcell⟩ := Kd.at_int (Kd.C_below HC.out HB.out) (k : Int) (by omega) (by have := HN.out; omega)
      rw [Int.toNat_natCast] at hcell
      have hcall := HG.out k wr (by have := HN.out; omega) HB.out
      obtain ⟨x, hx⟩ : ∃ x, x = rd xs (k : Int) := ⟨_, rfl⟩
      rw [← hx] at hcell hcall
      have HX := Aside0.mk hx
      have HCALL := Aside0.mk hcall
      clear hx hcall
      go_wp2_with (first | (go_at_fn g; refine HCALL.out.mono ?_; rintro e w1 ⟨v1, rfl, ho, hb⟩; obtain ⟨A1, c1, rfl⟩ := Kd.R_slice ho; have HR := Aside0.mk (Kd.R_mono (Kd.R_lower (Kd.R_bound ho) HB.out.size) (ok' := fun k_ => wr.heap.size ≤ k_) (fun _ h => h.2.1)); have HS := Aside0.mk (Kd.S_below HO.out hb); have HV := Aside0.mk (Kd.S_lt HO.out); have HT := Aside0.mk (Kd.S_old HO.out hb); have HB1 := Aside0.mk (below_then HB.out HB.out.size hb); clear ho hb) | ((with_reducible refine gate_builtin (b := .append) (xs := #[.tmp 14, .tmp 18]) rfl ?_); at_builtin; refine Kd.S_append dL (w0 := w) w.heap.size rfl (.tmp 14) (.tmp 18) 28 26 (.slice none 0 0) 24 rfl Try.underlying28 info_row rfl (by decide) (by omega) v ((xs.take k).map F) (F x) [.slice A1 (F x).length c1] (fun _ => True) (fun k_ => wr.heap.size ≤ k_) rfl rfl ⟨_, rfl, HR.out⟩ (fun k_ hk_ => ⟨trivial, fun e_ => by have := HV.out k_ e_.symm; omega⟩) (fun _ _ => trivial) (Kd.S_mono HT.out (fun k_ hk_ => ⟨trivial, fun h_ => by have := hk_.2; omega⟩)) HB1.out HB1.out.size ?aL ?_; (case aL => have := HN.out; simp only [List.length_map, List.length_take]; omega); intro v2 w2 ho2 hb2 hg2 hat; have HO2 := Aside0.mk ho2; have HB2 := Aside0.mk hb2; clear ho2 hb2 hg2 hat))
      go_roundg (n - (k + 1))
      case measure => omega
      case rel =>
        refine ⟨k + 1, v2, rfl, by omega, Nat.le_refl _, by go_num, ⟨?_⟩, HB2⟩
        have := HO2.out
        have hN := HN.out
        rwa [show (xs.take k).map F ++ [F x] = (xs.take (k + 1)).map F by
          have hk2 : k < xs.length := by omega
          rw [List.take_add_one, List.map_append, List.getElem?_eq_getElem hk2, HX.out]
          simp [rd, hk2]] at this
    · have hltz : ¬ (k : Int) < (n : Int) := by omega
      obtain rfl : k = n := by omega
      go_wp2
      go_ret
      refine ⟨_, rfl, ?_, HB.out⟩
      have := HO.out
      have hN := HN.out
      rwa [List.take_of_length_le (by omega)] at this

end Go.Proofs.Ytcgajgmcjgoipaa.Base

namespace Go.Proofs.Ytcgajgmcjgoipaa.Base
open Go.RowKit Go.Proofs.YtcgajgmcjgoipaaW.PrintWords Go.Proofs.YtcgajgmcjgoipaaW.PrintLast Go.Proofs.YtcgajgmcjgoipaaW.PrintMore

section
variable (A0 : Option Addr) (c0 : Nat) (l0 : List Int) (AL : Option Addr) (cl : Nat) (L : List (List Int)) (w : World)
/-- The world with the two variables that the literal takes in. -/
def boxed : World := (w.alloc (.cells #[.slice A0 l0.length c0] 22)).alloc (.cells #[.slice AL L.length cl] 28)
theorem boxed_below : Below w.heap.size w (boxed A0 c0 l0 AL cl L w) := below_alloc (below_alloc (Below.refl _ _) _) _
theorem boxed_size : (boxed A0 c0 l0 AL cl L w).heap.size = w.heap.size + 1 + 1 := by unfold boxed; rw [World.size_alloc, World.size_alloc]
theorem boxed_fates : (boxed A0 c0 l0 AL cl L w).cell? ⟨w.heap.size, 0, none⟩ = some (.slice A0 l0.length c0) :=
  (World.cell?_alloc_lt _ _ ⟨w.heap.size, 0, none⟩ (by rw [World.size_alloc]; exact Nat.lt_succ_self _)).trans (World.cell?_alloc_new _ _ _ 0)
theorem boxed_list : (boxed A0 c0 l0 AL cl L w).cell? ⟨w.heap.size + 1, 0, none⟩ = some (.slice AL L.length cl) := by
  unfold boxed
  rw [← World.size_alloc w (.cells #[.slice A0 l0.length c0] 22)]
  exact World.cell?_alloc_new _ _ _ 0

set_option maxHeartbeats 4000000 in
set_option maxRecDepth 100000 in
/-- Not to be sent: nothing arrives. -/
theorem pass_no (r : Bool)
    (hcan : ∀ W, Below w.heap.size w W → Calls Try.prog 59 #[.slice A0 l0.length c0, .int .i64 L.length] W fun e w' => e = .returned (.bool r) ∧ Below W.heap.size W w')
    (hall : r = true → ∀ W, Below w.heap.size w W → Calls Try.prog 60 #[.slice AL L.length cl, .func (.func 61) #[] #[]] W fun e w' => e = .returned (.bool false) ∧ Below W.heap.size W w') :
    Calls Try.prog 25 #[.slice A0 l0.length c0, .slice AL L.length cl] w fun e w' => ∃ v : Value, e = .returned v ∧ Kd.S dL 26 w' w.heap.size (fun _ => True) v [] ∧ Below w.heap.size w w' := by
  have HB := Aside0.mk (boxed_below A0 c0 l0 AL cl L w)
  have H2 := Aside0.mk (boxed_list A0 c0 l0 AL cl L w)
  have HC := Aside0.mk (hcan _ HB.out)
  have HALL := Aside0.mk hall
  clear hcan hall
  unfold boxed at HB H2 HC
  generalize l0.length = len at *
  generalize L.length = n at *
  cases r with
  | false =>
    go_enter Try.func25, Try.ntmps25
    go_wp2_with (go_at_call 59; refine HC.out.mono ?_; rintro e w3 ⟨rfl, hb⟩; have HB3 := Aside0.mk (below_then HB.out HB.out.size hb); clear hb)
    go_ret
    exact ⟨_, rfl, Kd.S_nil _ _ _ _ _, HB3.out⟩
  | true =>
    go_enter Try.func25, Try.ntmps25
    go_wp2_with (first | (go_at_call 59; refine HC.out.mono ?_; rintro e w3 ⟨rfl, hb⟩; have HB3 := Aside0.mk (below_then HB.out HB.out.size hb); have h3 : w3.cell? ⟨w.heap.size + 1, 0, none⟩ = some (.slice AL n cl) := pw_cell_below hb H2.out; clear hb) | (go_at_call 60; refine (HALL.out (by trivial) _ HB3.out).mono ?_; rintro e w4 ⟨rfl, hb⟩; have HB4 := Aside0.mk (below_then HB3.out HB3.out.size hb); clear hb))
    go_ret
    exact ⟨_, rfl, Kd.S_nil _ _ _ _ _, HB4.out⟩

set_option maxHeartbeats 4000000 in
set_option maxRecDepth 100000 in
/-- What arrives. -/
theorem pass_yes (ar : List Int) (F : Int → List Int) (har : ar.length ≤ 1000000)
    (hcan : ∀ W, Below w.heap.size w W → Calls Try.prog 59 #[.slice A0 l0.length c0, .int .i64 L.length] W fun e w' => e = .returned (.bool true) ∧ Below W.heap.size W w')
    (hall : ∀ W, Below w.heap.size w W → Calls Try.prog 60 #[.slice AL L.length cl, .func (.func 61) #[] #[]] W fun e w' => e = .returned (.bool true) ∧ Below W.heap.size W w')
    (harr : ∀ W, Below w.heap.size w W → Calls Try.prog 30 #[.slice A0 l0.length c0, .int .i64 L.length] W fun e w' => ∃ v : Value, e = .returned v ∧ Kd.R (Kd.int .i64) 3 w' W.heap.size (fun _ => True) v ar ∧ Below W.heap.size W w')
    (hone : ∀ (k : Nat) (W : World), k < ar.length → Below w.heap.size w W → W.cell? ⟨w.heap.size + 1, 0, none⟩ = some (.slice AL L.length cl) → W.cell? ⟨w.heap.size, 0, none⟩ = some (.slice A0 l0.length c0) →
      Calls Try.prog 63 #[.int .i64 (rd ar (k : Int)), .pointer (some ⟨w.heap.size + 1, 0, none⟩), .pointer (some ⟨w.heap.size, 0, none⟩)] W fun e w' => ∃ v : Value, e = .returned v ∧ Kd.R (Kd.int .u8) 5 w' W.heap.size (fun _ => True) v (F (rd ar (k : Int))) ∧ Below W.heap.size W w') :
    Calls Try.prog 25 #[.slice A0 l0.length c0, .slice AL L.length cl] w fun e w' => ∃ v : Value, e = .returned v ∧ Kd.S dL 26 w' w.heap.size (fun _ => True) v (ar.map F) ∧ Below w.heap.size w w' := by
  have HB := Aside0.mk (boxed_below A0 c0 l0 AL cl L w)
  have H1 := Aside0.mk (boxed_fates A0 c0 l0 AL cl L w)
  have H2 := Aside0.mk (boxed_list A0 c0 l0 AL cl L w)
  have HC := Aside0.mk (hcan _ HB.out)
  have HALL := Aside0.mk hall
  have HARR := Aside0.mk harr
  have HONE := Aside0.mk hone
  clear hcan hall harr hone
  unfold boxed at HB H1 H2 HC
  generalize l0.length = len at *
  generalize L.length = n at *
  have hmap : ∀ (v : Value) (W : World), Below w.heap.size w W → W.cell? ⟨w.heap.size + 1, 0, none⟩ = some (.slice AL n cl) → W.cell? ⟨w.heap.size, 0, none⟩ = some (.slice A0 len c0) → Kd.R (Kd.int .i64) 3 W w.heap.size (fun _ => True) v ar →
      Calls Try.prog 62 #[v, .func (.func 63) #[] #[.pointer (some ⟨w.heap.size + 1, 0, none⟩), .pointer (some ⟨w.heap.size, 0, none⟩)]] W fun e w' => ∃ v : Value, e = .returned v ∧ Kd.S dL 26 w' W.heap.size (fun _ => True) v (ar.map F) ∧ Below W.heap.size W w' := fun v W hb h2 h1 ho => by
    obtain ⟨A, c, rfl, hl, hc⟩ := Kd.R_reads ho
    exact mappedL_calls 63 _ (enters_of Try.func63 (by kernel_rfl) rfl) F A c ar W hc har (fun k W' hk hb' => HONE.out k W' hk (below_then hb hb.size hb') (pw_cell_below hb' h2) (pw_cell_below hb' h1))
  have HMAP := Aside0.mk hmap
  clear hmap
  go_enter Try.func25, Try.ntmps25
  go_wp2_with (first | (go_at_call 59; refine HC.out.mono ?_; rintro e w3 ⟨rfl, hb⟩; have HB3 := Aside0.mk (below_then HB.out HB.out.size hb); have h3 : w3.cell? ⟨w.heap.size + 1, 0, none⟩ = some (.slice AL n cl) := pw_cell_below hb H2.out; have h3f : w3.cell? ⟨w.heap.size, 0, none⟩ = some (.slice A0 len c0) := pw_cell_below hb H1.out; clear hb) | (go_at_call 60; refine (HALL.out _ HB3.out).mono ?_; rintro e w4 ⟨rfl, hb⟩; have HB4 := Aside0.mk (below_then HB3.out HB3.out.size hb); have h4 : w4.cell? ⟨w.heap.size + 1, 0, none⟩ = some (.slice AL n cl) := pw_cell_below hb h3; have h4f : w4.cell? ⟨w.heap.size, 0, none⟩ = some (.slice A0 len c0) := pw_cell_below hb h3f; clear hb) | (go_at_call 30; refine (HARR.out _ HB4.out).mono ?_; rintro e w5 ⟨va, rfl, ho, hb⟩; have HB5 := Aside0.mk (below_then HB4.out HB4.out.size hb); have HM := Aside0.mk (HMAP.out va w5 HB5.out (pw_cell_below hb h4) (pw_cell_below hb h4f) (Kd.R_lower ho HB4.out.size)); clear hb ho) | (go_at_call 62; refine HM.out.mono ?_; rintro e w6 ⟨vr, rfl, ho, hb⟩; have HO := Aside0.mk (Kd.S_lower ho HB5.out.size); have HB6 := Aside0.mk (below_then HB5.out HB5.out.size hb); clear hb ho))
  go_ret
  exact ⟨_, rfl, HO.out, HB6.out⟩
end

end Go.Proofs.Ytcgajgmcjgoipaa.Base

namespace Go.Proofs.Ytcgajgmcjgoipaa.Base
open Go.RowKit Go.Proofs.YtcgajgmcjgoipaaW.PrintWords Go.Proofs.YtcgajgmcjgoipaaW.PrintLast Go.Proofs.YtcgajgmcjgoipaaW.PrintMore

/-- The marks of one row: q, q + 1, .. as bytes. -/
def bmarks (q n : Nat) : List Int := (List.range n).map fun i => (((q + i : Nat) : Int) % 256)
/-- The marks of all rows, one behind the other, from q on. -/
def lmarks (q : Nat) : List (List Int) → List (List Int)
  | [] => []
  | b :: r => bmarks q b.length :: lmarks (q + b.length) r
/-- How many bytes they are. -/
def total : List (List Int) → Nat
  | [] => 0
  | b :: r => b.length + total r
theorem total_snoc (L : List (List Int)) (b : List Int) : total (L ++ [b]) = total L + b.length := by
  induction L with
  | nil => simp [total]
  | cons a L ih =>
    rw [List.cons_append, total, total, ih]
    omega
theorem lmarks_snoc (q : Nat) (L : List (List Int)) (b : List Int) : lmarks q (L ++ [b]) = lmarks q L ++ [bmarks (q + total L) b.length] := by
  induction L generalizing q with
  | nil => simp [lmarks, total]
  | cons a L ih =>
    rw [List.cons_append, lmarks, lmarks, ih, total, List.cons_append, Nat.add_assoc]
theorem lmarks_length (q : Nat) (L : List (List Int)) : (lmarks q L).length = L.length := by
  induction L generalizing q with
  | nil => rfl
  | cons a L ih => rw [lmarks, List.length_cons, List.length_cons, ih]
theorem total_take (L : List (List Int)) (i : Nat) (hi : i < L.length) : total (L.take (i + 1)) = total (L.take i) + (rdL L i).length := by
  rw [List.take_add_one, List.getElem?_eq_getElem hi, Option.toList_some, total_snoc, rdL_get L i hi]
theorem total_take_le (L : List (List Int)) (i : Nat) : total (L.take i) ≤ total L := by
  induction L generalizing i with
  | nil => simp [total]
  | cons a L ih =>
    cases i with
    | zero => simp [total]
    | succ i =>
      rw [List.take_succ_cons, total, total]
      have := ih i
      omega
/-- The first i rows marked, the others as they were. -/
def halfMarked (q : Nat) (L : List (List Int)) (i : Nat) : List (List Int) := lmarks q (L.take i) ++ L.drop i
theorem halfMarked_length (q : Nat) (L : List (List Int)) (i : Nat) (hi : i ≤ L.length) : (halfMarked q L i).length = L.length := by
  unfold halfMarked
  rw [List.length_append, lmarks_length, List.length_take, List.length_drop]
  omega
theorem halfMarked_at (q : Nat) (L : List (List Int)) (i : Nat) (hi : i < L.length) : (halfMarked q L i).getD i [] = rdL L i := by
  unfold halfMarked
  have hl : (lmarks q (L.take i)).length = i := by rw [lmarks_length, List.length_take]; omega
  rw [List.getD_eq_getElem?_getD, List.getElem?_append_right (by omega), hl, Nat.sub_self, List.getElem?_drop, Nat.add_zero]
  simp [rdL, hi]
theorem halfMarked_next (q : Nat) (L : List (List Int)) (i : Nat) (hi : i < L.length) : (halfMarked q L i).set i (bmarks (q + total (L.take i)) (rdL L i).length) = halfMarked q L (i + 1) := by
  have hl : (lmarks q (L.take i)).length = i := by rw [lmarks_length, List.length_take]; omega
  unfold halfMarked
  rw [List.set_append_right _ _ (by omega), hl, Nat.sub_self, List.drop_eq_getElem_cons hi, List.set_cons_zero]
  have e : L.take (i + 1) = L.take i ++ [L[i]] := by rw [List.take_add_one, List.getElem?_eq_getElem hi]; rfl
  rw [e, lmarks_snoc, List.append_assoc, rdL_get L i hi]
  rfl

set_option maxHeartbeats 4000000 in
set_option maxRecDepth 100000 in
theorem markSS_calls (q : Nat) (L : List (List Int)) (ok : Nat → Prop) (v : Value) (w0 w : World) (hq : q + total L ≤ 1099511627776) (hO : Kd.S dL 26 w w0.heap.size ok v L) (hB : Below w0.heap.size w0 w)
    (hone : ∀ (m : Nat) (A : Nat → Prop) (u : Value) (b : List Int) (W : World), Below w0.heap.size w0 W → m + b.length ≤ 1099511627776 → Kd.R (Kd.int .u8) 5 W w0.heap.size A u b → Calls Try.prog 79 #[u, .int .i64 m] W fun e w' =>
      e = .returned (.int .i64 ((m + b.length : Nat) : Int)) ∧ Kd.R (Kd.int .u8) 5 w' w0.heap.size (fun k_ => A k_ ∨ W.heap.size ≤ k_) u (bmarks m b.length) ∧ Below w0.heap.size w0 w' ∧ Kept W w' (fun k_ => A k_)) :
    Calls Try.prog 38 #[v, .int .i64 q] w fun e w' =>
      e = .returned (.int .i64 ((q + total L : Nat) : Int)) ∧ Kd.S dL 26 w' w0.heap.size ok v (lmarks q L) ∧ Below w0.heap.size w0 w' ∧ Kept w w' ok := by
  obtain ⟨AV, cv, rfl⟩ := Kd.S_slice hO
  have HO0 := Aside0.mk hO
  have HB0 := Aside0.mk hB
  have HONE := Aside0.mk hone
  have HQ := Aside0.mk hq
  have hbig : L.length ≤ 9223372036854775807 := (Kd.S_reads' hO).2.2.2.1
  clear hO hB hone hq
  obtain ⟨n, hn⟩ : ∃ n, n = L.length := ⟨_, rfl⟩
  have HN := Aside0.mk hn
  rw [← hn] at HO0 hbig ⊢
  clear hn
  go_enter Try.func38, Try.ntmps38
  go_wp2
  go_loopg [1, 5] n (fun gg s1 s5 wr => ∃ (i m : Nat), s1 = .int .i64 m ∧ s5 = .int .i64 i ∧ i ≤ n ∧ n - i ≤ gg ∧ Aside0 (m = q + total (L.take i)) ∧ Aside0 (Kd.S dL 26 wr w0.heap.size ok (.slice AV n cv) (halfMarked q L i)) ∧ Aside0 (Below w0.heap.size w0 wr) ∧ Aside0 (Kept w wr ok))
  case atStart => exact ⟨0, q, rfl, rfl, Nat.zero_le _, Nat.le_refl _, ⟨rfl⟩, HO0, HB0, ⟨Kept.refl _ _⟩⟩
  case round =>
    obtain ⟨i, m, rfl, rfl, hi, hg, HM, HO, HB, HK⟩ := hrel
    by_cases hlt : i < n
    · have hltz : (i : Int) < (n : Int) := by omega
      have hiL : i < L.length := by have := HN.out; omega
      obtain ⟨g, rfl⟩ : ∃ g, AV = some ⟨g, 0, none⟩ := by
        have hr := (Kd.S_reads' HO.out).2.2
        rw [halfMarked_length q L i (by omega)] at hr
        obtain ⟨ad, rfl, _⟩ := hr.2.2 (by omega)
        obtain ⟨g, rfl⟩ := Kd.R_head (Kd.S_R HO.out)
        exact ⟨g, rfl⟩
      obtain ⟨oki, c, hcl, hM, hcell, hoki, hH⟩ := Kd.S_lend HO.out [] (i : Int) (by omega) (by omega)
      obtain ⟨u, rfl, hR⟩ := hM
      have hc0 := hcell 0 u rfl
      rw [Int.toNat_natCast, halfMarked_at q L i hiL] at hR
      rw [Int.toNat_natCast, Nat.add_zero, show dL.sz = 1 from rfl, Nat.mul_one] at hc0
      have hmt : m + (rdL L i).length ≤ 1099511627776 := by
        have h1 := total_take L i hiL
        have h2 := total_take_le L (i + 1)
        have h3 := HQ.out
        have h4 := HM.out
        omega
      have hcall := HONE.out m oki u (rdL L i) wr HB.out hmt hR
      have HCALL := Aside0.mk hcall
      have HH := Aside0.mk hH
      have HOK := Aside0.mk hoki
      have HR := Aside0.mk hR
      obtain ⟨Au, cu, rfl⟩ := Kd.R_slice hR
      clear hcall hH hoki hR hcell hcl hmt
      go_wp2_with (go_at_call 79; refine HCALL.out.mono ?_; rintro e w1 ⟨rfl, hr1, hb1, hk1⟩; have HR1 := Aside0.mk hr1; have HB1 := Aside0.mk hb1; have HK1 := Aside0.mk hk1; clear hr1 hb1 hk1)
      go_roundg (n - (i + 1))
      case measure => omega
      case rel =>
        refine ⟨i + 1, m + (rdL L i).length, by go_num, by go_num, by omega, Nat.le_refl _, ⟨?_⟩, ⟨?_⟩, HB1, ⟨HK.out.then_ HK1.out (fun k hk => Or.inl (HOK.out k hk).1)⟩⟩
        · rw [total_take L i hiL, HM.out, Nat.add_assoc]
        · have hH2 := Kd.H_kept HH.out HK1.out (fun k _ hn => hn)
          have hR2 := Kd.R_mono (Kd.R_tight rfl HR1.out) (ok' := oki) (fun k hk => HR.out.1 k hk.symm)
          have := Kd.H_back hH2 (x' := bmarks m (rdL L i).length) (okp := oki) ⟨_, rfl, hR2⟩ (fun _ h => h)
          rwa [Int.toNat_natCast, HM.out, halfMarked_next q L i hiL] at this
    · have hltz : ¬ (i : Int) < (n : Int) := by omega
      obtain rfl : i = n := by omega
      go_wp2
      go_ret
      have e1 : L.take i = L := List.take_of_length_le (by have := HN.out; omega)
      have e2 : halfMarked q L i = lmarks q L := by
        unfold halfMarked
        rw [e1, List.drop_of_length_le (by have := HN.out; omega), List.append_nil]
      refine ⟨by rw [HM.out, e1]; rfl, ?_, HB.out, HK.out⟩
      have := HO.out
      rwa [e2] at this

end Go.Proofs.Ytcgajgmcjgoipaa.Base
