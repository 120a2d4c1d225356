-- WRITTEN BY A PROGRAM OF THIS SESSION (wip/tools/printall.py) over the kit's print: what each Go function answers, and that the machine's call does so. Lean checks it.
import Derived.Test.YtpecdgjddffhjaaPAllx0
import Derived.Test.YtpecdgjddffhjaaPAllx2
import Derived.Test.YtpecdgjddffhjaaPAllx4
namespace Go.Proofs.Ytpecdgjddffhjaa.PAll
open Go.RowKit Go.Proofs.YtpecdgjddffhjaaW.PrintWords Go.Proofs.YtpecdgjddffhjaaW.PrintLast Go.Proofs.YtpecdgjddffhjaaW.PrintMore
attribute [local go_sem] max2_int min2_int max_two min_two max_three min_three max_four min_four   -- for this text's walks alone
set_option linter.unusedVariables false
set_option linter.unusedSimpArgs false

-- IMPORT Derived.Deep.RegionLaw
/-! ### spec.UnpackLink, by hand: a row of the call's own read in a region that draws and appends -/
def spec_UnpackLink.f (k : Nat) (l0 : List Int) : Option (Int × Int × List Int × Bool) :=
  (spec_CutCrc.f k l0).bind fun t => if t.2 = true ∧ 0 < t.1.length then (spec_l1In.f (wrap64 (Int.tdiv (wrap64 (rd t.1 0)) 16)) 1 2).bind fun b => (if b = false ∨ ((wrap64 (Int.tdiv (wrap64 (rd t.1 0)) 16)) = 2 ∧ 1 < t.1.length) then some (0, 0, [], false) else (if (t.1.drop 1).length < 140737488355328 then some ((wrap64 (Int.tdiv (wrap64 (rd t.1 0)) 16)), Int.tmod (wrap64 (rd t.1 0)) 16, t.1.drop 1, true) else none)) else some (0, 0, [], false)
theorem spec_UnpackLink.mono : ∀ a0 k, LeO (spec_UnpackLink.f k a0) (spec_UnpackLink.f (k + 1) a0) := by
  intro a0 k
  unfold spec_UnpackLink.f
  exact LeO.bind (spec_CutCrc.mono _ _) (fun _ => LeO.refl _)
set_option maxHeartbeats 2000000 in
set_option maxRecDepth 100000 in
theorem spec_UnpackLink.no (k : Nat) (A0 : Option Addr) (c0 : Nat) (l0 t : List Int) (w : World) (hr0 : Kd.C (Kd.int .u8) w A0 l0.length l0) (hc0 : l0.length ≤ c0) (ht : spec_CutCrc.f k l0 = some (t, false)) :
    Calls Try.prog 25 #[.slice A0 l0.length c0] w fun e w' => ∃ v2_ : Value, e = .returned (.tuple #[.int .i64 0, .int .i64 0, v2_, .bool false]) ∧ Kd.R (Kd.int .u8) 5 w' w.heap.size (fun _ => True) v2_ [] ∧ Below w.heap.size w w' := by
  have HR0 := Aside0.mk hr0
  have HC0 := Aside0.mk hc0
  have A2 := Aside0.mk ht
  have HB0 := Aside0.mk (Below.refl w.heap.size w)
  obtain ⟨y1, hy1⟩ : ∃ y_ : List Int, y_ = ([] : List Int) := ⟨_, rfl⟩
  have Ny1 := Aside0.mk hy1
  clear hr0 hc0 ht hy1
  go_enter Try.func25, Try.ntmps25
  go_wp2_with (first | (go_at_call 19; (with_reducible refine (spec_CutCrc.calls k _ _ l0 t false _ ?side1 ?side2 A2.out).mono ?_); (case side1 => repeat (first | exact HR0.out | (with_reducible refine Kd.C_alloc ?_ _) | (with_reducible refine Kd.C_drewN ?_ _) | (with_reducible refine Kd.C_drew ?_))); (case side2 => exact HC0.out); rintro e w4 ⟨v415, rfl, ho0, hb⟩; have HB := Aside0.mk (below_step HB0.out hb); have HT := Aside0.mk (Kd.R_reads ho0); clear hb ho0) | ((with_reducible refine gate_dst (N := 21) rfl ?_); refine Kd.R_lit (Kd.int .u8) _ 5 ?hg (N := 21) ?hd (xs := ([] : List Int)) (inner := []) (ok := fun _ => True) (okp := fun _ => True) ?hr ?hp (fun _ hk => hk) trivial (Below.refl _ _) (Nat.le_refl _) (by simp) ?_; (case hd => rfl); (case hg => rfl); (case hr => first | (go_simp; done) | (go_simp; rfl)); (case hp => exact (Reps.none _ _)); intro v707 w11 ho12 hb hg_ hnew_; clear hg_ hnew_; (first | rw [← Ny1.out] at ho12 | (simp only [Int.reduceToNat] at ho12; rw [← Ny1.out] at ho12)); have n0_ := Aside0.mk (Kd.R_lower ho12 (below_size (by repeat (first | (with_reducible first | exact HB.out | apply below_alloc | apply pw_below_drewN | apply below_drew1) | exact HB.out)))); have n1_ := Aside0.mk (below_step (by repeat (first | (with_reducible first | exact HB.out | apply below_alloc | apply pw_below_drewN | apply below_drew1) | exact HB.out)) hb); clear HB; have HO708 := n0_; have HB := n1_; clear n0_ n1_; clear hb ho12))
  refine bodyPost_ret (results_list (rs := [.tmp 2, .tmp 3, .tmp 4, .tmp 5]) rfl (by simp) (.tmp (.tmp (.tmp (.tmp .nil))))) rfl ?_
  exact ⟨_, rfl, (by have h := HO708.out; rw [Ny1.out] at h; exact h), HB.out⟩
set_option maxHeartbeats 2000000 in
set_option maxRecDepth 100000 in
theorem spec_UnpackLink.emp (k : Nat) (A0 : Option Addr) (c0 : Nat) (l0 t : List Int) (w : World) (hr0 : Kd.C (Kd.int .u8) w A0 l0.length l0) (hc0 : l0.length ≤ c0) (ht : spec_CutCrc.f k l0 = some (t, true)) (hn : t.length = 0) :
    Calls Try.prog 25 #[.slice A0 l0.length c0] w fun e w' => ∃ v2_ : Value, e = .returned (.tuple #[.int .i64 0, .int .i64 0, v2_, .bool false]) ∧ Kd.R (Kd.int .u8) 5 w' w.heap.size (fun _ => True) v2_ [] ∧ Below w.heap.size w w' := by
  have HR0 := Aside0.mk hr0
  have HC0 := Aside0.mk hc0
  have A2 := Aside0.mk ht
  have HB0 := Aside0.mk (Below.refl w.heap.size w)
  obtain ⟨y1, hy1⟩ : ∃ y_ : List Int, y_ = ([] : List Int) := ⟨_, rfl⟩
  have Ny1 := Aside0.mk hy1
  clear hr0 hc0 ht hy1
  obtain rfl : t = [] := List.eq_nil_of_length_eq_zero hn
  clear hn
  go_enter Try.func25, Try.ntmps25
  go_wp2_with (first | (go_at_call 19; (with_reducible refine (spec_CutCrc.calls k _ _ l0 [] true _ ?side1 ?side2 A2.out).mono ?_); (case side1 => repeat (first | exact HR0.out | (with_reducible refine Kd.C_alloc ?_ _) | (with_reducible refine Kd.C_drewN ?_ _) | (with_reducible refine Kd.C_drew ?_))); (case side2 => exact HC0.out); rintro e w4 ⟨v415, rfl, ho0, hb⟩; have HB := Aside0.mk (below_step HB0.out hb); have HT := Aside0.mk (Kd.R_reads ho0); clear hb ho0; obtain ⟨A1, c1, rfl, hc1, hC1⟩ := HT.out; have HC1 := Aside0.mk hc1; have HK := Aside0.mk hC1; clear hc1 hC1 HT) | ((with_reducible refine gate_dst (N := 21) rfl ?_); refine Kd.R_lit (Kd.int .u8) _ 5 ?hg (N := 21) ?hd (xs := ([] : List Int)) (inner := []) (ok := fun _ => True) (okp := fun _ => True) ?hr ?hp (fun _ hk => hk) trivial (Below.refl _ _) (Nat.le_refl _) (by simp) ?_; (case hd => rfl); (case hg => rfl); (case hr => first | (go_simp; done) | (go_simp; rfl)); (case hp => exact (Reps.none _ _)); intro v707 w11 ho12 hb hg_ hnew_; clear hg_ hnew_; (first | rw [← Ny1.out] at ho12 | (simp only [Int.reduceToNat] at ho12; rw [← Ny1.out] at ho12)); have n0_ := Aside0.mk (Kd.R_lower ho12 (below_size (by repeat (first | (with_reducible first | exact HB.out | apply below_alloc | apply pw_below_drewN | apply below_drew1) | exact HB.out)))); have n1_ := Aside0.mk (below_step (by repeat (first | (with_reducible first | exact HB.out | apply below_alloc | apply pw_below_drewN | apply below_drew1) | exact HB.out)) hb); clear HB; have HO708 := n0_; have HB := n1_; clear n0_ n1_; clear hb ho12))
  refine bodyPost_ret (results_list (rs := [.tmp 2, .tmp 3, .tmp 4, .tmp 5]) rfl (by simp) (.tmp (.tmp (.tmp (.tmp .nil))))) rfl ?_
  exact ⟨_, rfl, (by have h := HO708.out; rw [Ny1.out] at h; exact h), HB.out⟩
theorem cell_grown {W w1 : World} {row : Option Nat} (hg : W.grownBy w1 row) {a : Addr} {v : Value} (h : W.cell? a = some v) (hne : some a.block ≠ row) : w1.cell? a = some v := by
  have := hg.block a.block (World.block_lt_of_cell? _ _ h) hne
  unfold World.cell? at *
  rw [this]
  exact h
set_option maxHeartbeats 2000000 in
set_option maxRecDepth 100000 in
theorem spec_UnpackLink.bad1 (k : Nat) (A0 : Option Addr) (c0 : Nat) (l0 t : List Int) (w : World) (hr0 : Kd.C (Kd.int .u8) w A0 l0.length l0) (hc0 : l0.length ≤ c0) (ht : spec_CutCrc.f k l0 = some (t, true)) (hn : 0 < t.length) (y : Int) (hy : rd t 0 = y) (hb9 : spec_l1In.f (wrap64 (Int.tdiv (wrap64 y) 16)) 1 2 = some false) :
    Calls Try.prog 25 #[.slice A0 l0.length c0] w fun e w' => ∃ v2_ : Value, e = .returned (.tuple #[.int .i64 0, .int .i64 0, v2_, .bool false]) ∧ Kd.R (Kd.int .u8) 5 w' w.heap.size (fun _ => True) v2_ [] ∧ Below w.heap.size w w' := by
  have HR0 := Aside0.mk hr0
  have HC0 := Aside0.mk hc0
  have A2 := Aside0.mk ht
  have HB0 := Aside0.mk (Below.refl w.heap.size w)
  obtain ⟨y1, hy1⟩ : ∃ y_ : List Int, y_ = ([] : List Int) := ⟨_, rfl⟩
  have Ny1 := Aside0.mk hy1
  clear hr0 hc0 ht hy1
  have A9 := Aside0.mk hb9
  have p1 : 0 < t.length := by omega
  have p2 : (0 : Int) < (t.length : Int) := by omega
  have p3 : decide (0 < (t.length : Int)) = true := decide_eq_true (by omega)
  have p4 : ((t.length : Int) == 0) = false := beq_eq_false_iff_ne.mpr (by omega)
  clear hn hb9
  go_enter Try.func25, Try.ntmps25
  go_wp2_with (first | (go_at_call 19; (with_reducible refine (spec_CutCrc.calls k _ _ l0 t true _ ?side1 ?side2 A2.out).mono ?_); (case side1 => repeat (first | exact HR0.out | (with_reducible refine Kd.C_alloc ?_ _) | (with_reducible refine Kd.C_drewN ?_ _) | (with_reducible refine Kd.C_drew ?_))); (case side2 => exact HC0.out); rintro e w4 ⟨v415, rfl, ho0, hb⟩; have HB := Aside0.mk (below_step HB0.out hb); have HT := Aside0.mk (Kd.R_reads ho0); clear hb ho0; obtain ⟨A1, c1, rfl, hc1, hC1⟩ := HT.out; obtain ⟨ad, rfl, hx⟩ := Kd.at_int hC1 0 (by omega) (by omega); rw [hy] at hx; (try rw [show ((0 : Int)).toNat = 0 from rfl] at hx); (try rw [Addr.add_zero'] at hx); have HC1 := Aside0.mk hc1; have HK := Aside0.mk hC1; clear hc1 hC1 HT) | (go_at_call 34; (with_reducible refine (spec_l1In.calls (wrap64 (Int.tdiv (wrap64 y) 16)) 1 2 false _ A9.out).mono ?_); rintro e w' ⟨rfl, ⟨nd, rfl⟩⟩) | ((with_reducible refine gate_dst (N := 39) rfl ?_); refine Kd.R_lit (Kd.int .u8) _ 5 ?hg (N := 39) ?hd (xs := ([] : List Int)) (inner := []) (ok := fun _ => True) (okp := fun _ => True) ?hr ?hp (fun _ hk => hk) trivial (Below.refl _ _) (Nat.le_refl _) (by simp) ?_; (case hd => rfl); (case hg => rfl); (case hr => first | (go_simp; done) | (go_simp; rfl)); (case hp => exact (Reps.none _ _)); intro v707 w11 ho12 hb hg_ hnew_; clear hg_ hnew_; (first | rw [← Ny1.out] at ho12 | (simp only [Int.reduceToNat] at ho12; rw [← Ny1.out] at ho12)); have n0_ := Aside0.mk (Kd.R_lower ho12 (below_size (by repeat (first | (with_reducible first | exact HB.out | apply below_alloc | apply pw_below_drewN | apply below_drew1) | exact HB.out)))); have n1_ := Aside0.mk (below_step (by repeat (first | (with_reducible first | exact HB.out | apply below_alloc | apply pw_below_drewN | apply below_drew1) | exact HB.out)) hb); clear HB; have HO708 := n0_; have HB := n1_; clear n0_ n1_; clear hb ho12))
  refine bodyPost_ret (results_list (rs := [.tmp 2, .tmp 3, .tmp 4, .tmp 5]) rfl (by simp) (.tmp (.tmp (.tmp (.tmp .nil))))) rfl ?_
  exact ⟨_, rfl, (by have h := HO708.out; rw [Ny1.out] at h; exact h), HB.out⟩
set_option maxHeartbeats 2000000 in
set_option maxRecDepth 100000 in
theorem spec_UnpackLink.bad2 (k : Nat) (A0 : Option Addr) (c0 : Nat) (l0 t : List Int) (w : World) (hr0 : Kd.C (Kd.int .u8) w A0 l0.length l0) (hc0 : l0.length ≤ c0) (ht : spec_CutCrc.f k l0 = some (t, true)) (hn : 1 < t.length) (y : Int) (hy : rd t 0 = y) (hk2 : (wrap64 (Int.tdiv (wrap64 y) 16)) = 2) (hb9 : spec_l1In.f (wrap64 (Int.tdiv (wrap64 y) 16)) 1 2 = some true) :
    Calls Try.prog 25 #[.slice A0 l0.length c0] w fun e w' => ∃ v2_ : Value, e = .returned (.tuple #[.int .i64 0, .int .i64 0, v2_, .bool false]) ∧ Kd.R (Kd.int .u8) 5 w' w.heap.size (fun _ => True) v2_ [] ∧ Below w.heap.size w w' := by
  have HR0 := Aside0.mk hr0
  have HC0 := Aside0.mk hc0
  have A2 := Aside0.mk ht
  have HB0 := Aside0.mk (Below.refl w.heap.size w)
  obtain ⟨y1, hy1⟩ : ∃ y_ : List Int, y_ = ([] : List Int) := ⟨_, rfl⟩
  have Ny1 := Aside0.mk hy1
  clear hr0 hc0 ht hy1
  have A9 := Aside0.mk hb9
  have p1 : 0 < t.length := by omega
  have p2 : (0 : Int) < (t.length : Int) := by omega
  have p3 : decide (0 < (t.length : Int)) = true := decide_eq_true (by omega)
  have p4 : ((t.length : Int) == 0) = false := beq_eq_false_iff_ne.mpr (by omega)
  have p5 : decide (1 < (t.length : Int)) = true := decide_eq_true (by omega)
  have p6 : ((wrap64 (Int.tdiv (wrap64 y) 16)) == 2) = true := beq_iff_eq.mpr hk2
  clear hb9 hk2
  go_enter Try.func25, Try.ntmps25
  go_wp2_with (first | (go_at_call 19; (with_reducible refine (spec_CutCrc.calls k _ _ l0 t true _ ?side1 ?side2 A2.out).mono ?_); (case side1 => repeat (first | exact HR0.out | (with_reducible refine Kd.C_alloc ?_ _) | (with_reducible refine Kd.C_drewN ?_ _) | (with_reducible refine Kd.C_drew ?_))); (case side2 => exact HC0.out); rintro e w4 ⟨v415, rfl, ho0, hb⟩; have HB := Aside0.mk (below_step HB0.out hb); have HT := Aside0.mk (Kd.R_reads ho0); clear hb ho0; obtain ⟨A1, c1, rfl, hc1, hC1⟩ := HT.out; obtain ⟨ad, rfl, hx⟩ := Kd.at_int hC1 0 (by omega) (by omega); rw [hy] at hx; (try rw [show ((0 : Int)).toNat = 0 from rfl] at hx); (try rw [Addr.add_zero'] at hx); have HC1 := Aside0.mk hc1; have HK := Aside0.mk hC1; clear hc1 hC1 HT) | (go_at_call 34; (with_reducible refine (spec_l1In.calls (wrap64 (Int.tdiv (wrap64 y) 16)) 1 2 true _ A9.out).mono ?_); rintro e w' ⟨rfl, ⟨nd, rfl⟩⟩) | ((with_reducible refine gate_dst (N := 39) rfl ?_); refine Kd.R_lit (Kd.int .u8) _ 5 ?hg (N := 39) ?hd (xs := ([] : List Int)) (inner := []) (ok := fun _ => True) (okp := fun _ => True) ?hr ?hp (fun _ hk => hk) trivial (Below.refl _ _) (Nat.le_refl _) (by simp) ?_; (case hd => rfl); (case hg => rfl); (case hr => first | (go_simp; done) | (go_simp; rfl)); (case hp => exact (Reps.none _ _)); intro v707 w11 ho12 hb hg_ hnew_; clear hg_ hnew_; (first | rw [← Ny1.out] at ho12 | (simp only [Int.reduceToNat] at ho12; rw [← Ny1.out] at ho12)); have n0_ := Aside0.mk (Kd.R_lower ho12 (below_size (by repeat (first | (with_reducible first | exact HB.out | apply below_alloc | apply pw_below_drewN | apply below_drew1) | exact HB.out)))); have n1_ := Aside0.mk (below_step (by repeat (first | (with_reducible first | exact HB.out | apply below_alloc | apply pw_below_drewN | apply below_drew1) | exact HB.out)) hb); clear HB; have HO708 := n0_; have HB := n1_; clear n0_ n1_; clear hb ho12))
  refine bodyPost_ret (results_list (rs := [.tmp 2, .tmp 3, .tmp 4, .tmp 5]) rfl (by simp) (.tmp (.tmp (.tmp (.tmp .nil))))) rfl ?_
  exact ⟨_, rfl, (by have h := HO708.out; rw [Ny1.out] at h; exact h), HB.out⟩
set_option maxHeartbeats 2000000 in
set_option maxRecDepth 100000 in
theorem spec_UnpackLink.yes (k : Nat) (A0 : Option Addr) (c0 : Nat) (l0 t : List Int) (w : World) (hr0 : Kd.C (Kd.int .u8) w A0 l0.length l0) (hc0 : l0.length ≤ c0) (ht : spec_CutCrc.f k l0 = some (t, true)) (hn : 0 < t.length) (y : Int) (hy : rd t 0 = y) (g : Bool) (hg : ((wrap64 (Int.tdiv (wrap64 y) 16)) == 2) = g) (hg2 : g = true → t.length = 1) (hb9 : spec_l1In.f (wrap64 (Int.tdiv (wrap64 y) 16)) 1 2 = some true) (hln : (t.drop 1).length < 140737488355328) :
    Calls Try.prog 25 #[.slice A0 l0.length c0] w fun e w' => ∃ v2_ : Value, e = .returned (.tuple #[.int .i64 (wrap64 (Int.tdiv (wrap64 y) 16)), .int .i64 (Int.tmod (IntKind.i64.wrap y) 16), v2_, .bool true]) ∧ Kd.R (Kd.int .u8) 5 w' w.heap.size (fun _ => True) v2_ (t.drop 1) ∧ Below w.heap.size w w' := by
  have HR0 := Aside0.mk hr0
  have HC0 := Aside0.mk hc0
  have A2 := Aside0.mk ht
  have HB0 := Aside0.mk (Below.refl w.heap.size w)
  obtain ⟨y1, hy1⟩ : ∃ y_ : List Int, y_ = ([] : List Int) := ⟨_, rfl⟩
  have Ny1 := Aside0.mk hy1
  clear hr0 hc0 ht hy1
  have A9 := Aside0.mk hb9
  have p1 : 0 < t.length := by omega
  have p2 : (0 : Int) < (t.length : Int) := by omega
  have p3 : decide (0 < (t.length : Int)) = true := decide_eq_true (by omega)
  have p4 : ((t.length : Int) == 0) = false := beq_eq_false_iff_ne.mpr (by omega)
  have p5 : g = true → decide (1 < (t.length : Int)) = false := fun h => decide_eq_false (by have := hg2 h; omega)
  clear hb9
  cases g
  · clear p5 hg2
    obtain ⟨i0, hi0, _, hsz, _⟩ := info_parts info5
    have hy17 : (t.drop 1).length = t.length - (1 : Int).toNat := by rw [List.length_drop]; rfl
    obtain ⟨z, hz⟩ : ∃ z, z = t.drop 1 := ⟨_, rfl⟩
    rw [← hz] at hy17 hln ⊢
    have HLN := Aside0.mk hln
    clear hln
    go_enter Try.func25, Try.ntmps25
    go_wp2_with (first | (go_at_call 19; (with_reducible refine (spec_CutCrc.calls k _ _ l0 t true _ ?side1 ?side2 A2.out).mono ?_); (case side1 => repeat (first | exact HR0.out | (with_reducible refine Kd.C_alloc ?_ _) | (with_reducible refine Kd.C_drewN ?_ _) | (with_reducible refine Kd.C_drew ?_))); (case side2 => exact HC0.out); rintro e w4 ⟨v415, rfl, ho0, hb⟩; have HB := Aside0.mk (below_step HB0.out hb); have HT := Aside0.mk (Kd.R_reads ho0); clear hb ho0; obtain ⟨A1, c1, rfl, hc1, hC1⟩ := HT.out; obtain ⟨ad, rfl, hx⟩ := Kd.at_int hC1 0 (by omega) (by omega); rw [hy] at hx; (try rw [show ((0 : Int)).toNat = 0 from rfl] at hx); (try rw [Addr.add_zero'] at hx); have HC1 := Aside0.mk hc1; have HK := Aside0.mk hC1; clear hc1 hC1 HT) | (go_at_call 34; (with_reducible refine (spec_l1In.calls (wrap64 (Int.tdiv (wrap64 y) 16)) 1 2 true _ A9.out).mono ?_); rintro e w' ⟨rfl, ⟨nd, rfl⟩⟩))
    have hcut := cut_from (P := Try.prog) 22 5 .i64 Try.underlying22 hi0 1 hsz (some ad) t.length c1 1 (by omega) (by omega)
    have hr17 := Kd.C_drop (m := (1 : Int).toNat) (c := c1) HK.out (by show 1 ≤ t.length; omega) HC1.out
    rw [show t.drop (1 : Int).toNat = z from hz.symm] at hr17
    obtain ⟨A17, hA17⟩ : ∃ A1, A1 = (if c1 = (1 : Int).toNat then (some ad) else ((some ad) : Option Addr).map (·.add ((1 : Int).toNat * 1))) := ⟨_, rfl⟩
    obtain ⟨c17, hc17⟩ : ∃ c2, c2 = c1 - (1 : Int).toNat := ⟨_, rfl⟩
    replace hr17 : Kd.C (Kd.int .u8) w4 A17 z.length z := by rw [hA17]; exact hr17
    rw [← hy17, ← hA17, ← hc17] at hcut
    have HR17 := Aside0.mk hr17
    have hlt := World.block_lt_of_cell? _ _ hx
    have HZ := Aside0.mk hz
    have hxA : ((w4.drewN (nd + 1)).alloc (Obj.cells #[] 5)).cell? ad = some (.int .u8 y) := (World.cell?_alloc_lt _ _ _ hlt).trans hx
    have HBS : Aside0 (w.heap.size ≤ (w4.drewN (nd + 1)).heap.size) := ⟨HB.out.size⟩
    have HZL := HLN
    clear hr17 hA17 hc17 hz hy17 hi0 hsz
    go_region_law (first | (refine Kd.R_append_rows_step (Kd.int .u8) (w0 := w) w.heap.size rfl (.tmp 46) (.tmp 48) 22 5 (.int .u8 0) 1 rfl Try.underlying22 info5 rfl (by decide) (by omega) (.slice (some ⟨w4.heap.size, 0, none⟩) 0 0) [] z A17 z.length c17 (fun _ => True) (fun _ => False) rfl rfl ?aO ?aR (fun _ _ h => h) (fun _ h => h.elim) (fun _ _ => trivial) ?aB ?aS ?aL ?_; (case aR => exact Kd.C_alloc (Kd.C_drewN HR17.out _) _); (case aB => exact (by repeat (first | (with_reducible first | exact HB.out | apply below_alloc | apply pw_below_drewN | apply below_drew1) | exact HB.out))); (case aS => exact (below_size (by repeat (first | (with_reducible first | exact HB.out | apply below_alloc | apply pw_below_drewN | apply below_drew1) | exact HB.out)))); (case aO => exact Kd.R_of_own (own_lit_of (enc := Value.int .u8) _ w.heap.size 5 [] HBS.out (by simp)) (fun _ _ => trivial)); (case aL => have := HZL.out; simp; omega); intro v5 w5 ho5 hb5 hg5 _; have hx5 := cell_grown hg5 hxA (by simp [Value.ownBlock]; omega); have HO5 := Aside0.mk ho5; have HB5 := Aside0.mk hb5; clear ho5 hb5 hg5))
    all_goals
      go_wp2
      refine bodyPost_ret (results_list (rs := [.tmp 2, .tmp 3, .tmp 4, .tmp 5]) rfl (by simp) (.tmp (.tmp (.tmp (.tmp .nil))))) rfl ?_
      exact ⟨_, rfl, HO5.out, HB5.out⟩
  · replace p5 := p5 rfl
    clear hg2
    obtain ⟨i0, hi0, _, hsz, _⟩ := info_parts info5
    have hy17 : (t.drop 1).length = t.length - (1 : Int).toNat := by rw [List.length_drop]; rfl
    obtain ⟨z, hz⟩ : ∃ z, z = t.drop 1 := ⟨_, rfl⟩
    rw [← hz] at hy17 hln ⊢
    have HLN := Aside0.mk hln
    clear hln
    go_enter Try.func25, Try.ntmps25
    go_wp2_with (first | (go_at_call 19; (with_reducible refine (spec_CutCrc.calls k _ _ l0 t true _ ?side1 ?side2 A2.out).mono ?_); (case side1 => repeat (first | exact HR0.out | (with_reducible refine Kd.C_alloc ?_ _) | (with_reducible refine Kd.C_drewN ?_ _) | (with_reducible refine Kd.C_drew ?_))); (case side2 => exact HC0.out); rintro e w4 ⟨v415, rfl, ho0, hb⟩; have HB := Aside0.mk (below_step HB0.out hb); have HT := Aside0.mk (Kd.R_reads ho0); clear hb ho0; obtain ⟨A1, c1, rfl, hc1, hC1⟩ := HT.out; obtain ⟨ad, rfl, hx⟩ := Kd.at_int hC1 0 (by omega) (by omega); rw [hy] at hx; (try rw [show ((0 : Int)).toNat = 0 from rfl] at hx); (try rw [Addr.add_zero'] at hx); have HC1 := Aside0.mk hc1; have HK := Aside0.mk hC1; clear hc1 hC1 HT) | (go_at_call 34; (with_reducible refine (spec_l1In.calls (wrap64 (Int.tdiv (wrap64 y) 16)) 1 2 true _ A9.out).mono ?_); rintro e w' ⟨rfl, ⟨nd, rfl⟩⟩))
    have hcut := cut_from (P := Try.prog) 22 5 .i64 Try.underlying22 hi0 1 hsz (some ad) t.length c1 1 (by omega) (by omega)
    have hr17 := Kd.C_drop (m := (1 : Int).toNat) (c := c1) HK.out (by show 1 ≤ t.length; omega) HC1.out
    rw [show t.drop (1 : Int).toNat = z from hz.symm] at hr17
    obtain ⟨A17, hA17⟩ : ∃ A1, A1 = (if c1 = (1 : Int).toNat then (some ad) else ((some ad) : Option Addr).map (·.add ((1 : Int).toNat * 1))) := ⟨_, rfl⟩
    obtain ⟨c17, hc17⟩ : ∃ c2, c2 = c1 - (1 : Int).toNat := ⟨_, rfl⟩
    replace hr17 : Kd.C (Kd.int .u8) w4 A17 z.length z := by rw [hA17]; exact hr17
    rw [← hy17, ← hA17, ← hc17] at hcut
    have HR17 := Aside0.mk hr17
    have hlt := World.block_lt_of_cell? _ _ hx
    have HZ := Aside0.mk hz
    have hxA : ((w4.drewN (nd + 1)).alloc (Obj.cells #[] 5)).cell? ad = some (.int .u8 y) := (World.cell?_alloc_lt _ _ _ hlt).trans hx
    have HBS : Aside0 (w.heap.size ≤ (w4.drewN (nd + 1)).heap.size) := ⟨HB.out.size⟩
    have HZL := HLN
    clear hr17 hA17 hc17 hz hy17 hi0 hsz
    go_region_law (first | (refine Kd.R_append_rows_step (Kd.int .u8) (w0 := w) w.heap.size rfl (.tmp 46) (.tmp 48) 22 5 (.int .u8 0) 1 rfl Try.underlying22 info5 rfl (by decide) (by omega) (.slice (some ⟨w4.heap.size, 0, none⟩) 0 0) [] z A17 z.length c17 (fun _ => True) (fun _ => False) rfl rfl ?aO ?aR (fun _ _ h => h) (fun _ h => h.elim) (fun _ _ => trivial) ?aB ?aS ?aL ?_; (case aR => exact Kd.C_alloc (Kd.C_drewN HR17.out _) _); (case aB => exact (by repeat (first | (with_reducible first | exact HB.out | apply below_alloc | apply pw_below_drewN | apply below_drew1) | exact HB.out))); (case aS => exact (below_size (by repeat (first | (with_reducible first | exact HB.out | apply below_alloc | apply pw_below_drewN | apply below_drew1) | exact HB.out)))); (case aO => exact Kd.R_of_own (own_lit_of (enc := Value.int .u8) _ w.heap.size 5 [] HBS.out (by simp)) (fun _ _ => trivial)); (case aL => have := HZL.out; simp; omega); intro v5 w5 ho5 hb5 hg5 _; have hx5 := cell_grown hg5 hxA (by simp [Value.ownBlock]; omega); have HO5 := Aside0.mk ho5; have HB5 := Aside0.mk hb5; clear ho5 hb5 hg5))
    all_goals
      go_wp2
      refine bodyPost_ret (results_list (rs := [.tmp 2, .tmp 3, .tmp 4, .tmp 5]) rfl (by simp) (.tmp (.tmp (.tmp (.tmp .nil))))) rfl ?_
      exact ⟨_, rfl, HO5.out, HB5.out⟩
theorem spec_UnpackLink.calls (k : Nat) (A0 : Option Addr) (c0 : Nat) (l0 : List Int) (r1 : Int) (r2 : Int) (r3 : List Int) (r4 : Bool) (w : World) (hr0 : Kd.C (Kd.int .u8) w A0 l0.length l0) (hc0 : l0.length ≤ c0) (h : spec_UnpackLink.f k l0 = some (r1, r2, r3, r4)) :
    Calls Try.prog 25 #[.slice A0 l0.length c0] w fun e w' => ∃ v2_ : Value, e = .returned (.tuple #[.int .i64 r1, .int .i64 r2, v2_, .bool r4]) ∧ Kd.R (Kd.int .u8) 5 w' w.heap.size (fun _ => True) v2_ r3 ∧ Below w.heap.size w w' := by
  unfold spec_UnpackLink.f at h
  obtain ⟨⟨t, ok⟩, ht, h⟩ := Option.bind_eq_some_iff.mp h
  have no : some ((0 : Int), (0 : Int), ([] : List Int), false) = some (r1, r2, r3, r4) → r1 = 0 ∧ r2 = 0 ∧ r3 = [] ∧ r4 = false := by
    intro e
    simp only [Option.some.injEq, Prod.mk.injEq] at e
    exact ⟨e.1.symm, e.2.1.symm, e.2.2.1.symm, e.2.2.2.symm⟩
  by_cases c1 : ok = true ∧ 0 < t.length
  · obtain ⟨rfl, hn⟩ := c1
    rw [if_pos ⟨rfl, hn⟩] at h
    obtain ⟨b, hb, h⟩ := Option.bind_eq_some_iff.mp h
    by_cases c2 : b = false ∨ (wrap64 (Int.tdiv (wrap64 (rd t 0)) 16) = 2 ∧ 1 < t.length)
    · rw [if_pos c2] at h
      obtain ⟨rfl, rfl, rfl, rfl⟩ := no h
      cases b with
      | false => exact spec_UnpackLink.bad1 k A0 c0 l0 t w hr0 hc0 ht hn _ rfl hb
      | true =>
        rcases c2 with c2 | c2
        · cases c2
        · exact spec_UnpackLink.bad2 k A0 c0 l0 t w hr0 hc0 ht c2.2 _ rfl c2.1 hb
    · rw [if_neg c2] at h
      obtain rfl : b = true := by
        cases b
        · exact absurd (Or.inl rfl) c2
        · rfl
      by_cases c3 : (t.drop 1).length < 140737488355328
      · rw [if_pos c3] at h
        simp only [Option.some.injEq, Prod.mk.injEq] at h
        obtain ⟨rfl, rfl, rfl, rfl⟩ := h
        have hy := spec_UnpackLink.yes k A0 c0 l0 t w hr0 hc0 ht hn _ rfl _ rfl (fun e => by
          have e2 := beq_iff_eq.mp e
          have : ¬ 1 < t.length := fun h1 => c2 (.inr ⟨e2, h1⟩)
          omega) hb c3
        rw [i64_w] at hy
        exact hy
      · rw [if_neg c3] at h
        cases h
  · rw [if_neg c1] at h
    obtain ⟨rfl, rfl, rfl, rfl⟩ := no h
    cases ok with
    | false => exact spec_UnpackLink.no k A0 c0 l0 t w hr0 hc0 ht
    | true => exact spec_UnpackLink.emp k A0 c0 l0 t w hr0 hc0 ht (by have : ¬ 0 < t.length := fun h => c1 ⟨rfl, h⟩; omega)

/-! ### impl_isData: function 33 -/
def impl_isData.f (l0 : List Int) : Option (Bool) := some (decide ((l0.length : Int) ≤ 600))
set_option maxHeartbeats 8000000 in
set_option maxRecDepth 100000 in
theorem impl_isData.calls (A0 : Option Addr) (c0 : Nat) (l0 : List Int) (r : Bool) (w : World) (hr0 : Kd.C (Kd.int .u8) w A0 l0.length l0) (hc0 : l0.length ≤ c0) (h : impl_isData.f l0 = some r) :
    Calls Try.prog 33 #[.slice A0 l0.length c0] w fun e w' => e = .returned (.bool r) ∧ Drawn0 w w' := by
  have HR0 := Aside0.mk hr0
  have HC0 := Aside0.mk hc0
  clear hr0 hc0
  have H : (some (decide ((l0.length : Int) ≤ 600))) = some r := h
  clear h
  obtain rfl := Option.some.inj H
  go_enter Try.func33, Try.ntmps33
  go_wp2
  go_ret
  exact ⟨by first | rfl | (simp; done) | (simp [*]; done), by repeat (first | exact Drawn0.refl _ | apply Drawn0.step)⟩

/-! ### impl_within: function 35 -/
def impl_within.f (a0 : Int) (a1 : Int) (a2 : Int) : Option (Bool) := if a1 ≤ a0 then (some (decide (a0 ≤ a2))) else (some false)
set_option maxHeartbeats 8000000 in
set_option maxRecDepth 100000 in
theorem impl_within.calls (a0 : Int) (a1 : Int) (a2 : Int) (r : Bool) (w : World) (h : impl_within.f a0 a1 a2 = some r) :
    Calls Try.prog 35 #[.int .i64 a0, .int .i64 a1, .int .i64 a2] w fun e w' => e = .returned (.bool r) ∧ Drawn0 w w' := by
  have H : (if a1 ≤ a0 then (some (decide (a0 ≤ a2))) else (some false)) = some r := h
  clear h
  by_cases c4 : a1 ≤ a0
  · rw [if_pos c4] at H
    have c4b0 : decide (a1 ≤ a0) = true := decide_eq_true c4
    clear c4
    obtain rfl := Option.some.inj H
    go_enter Try.func35, Try.ntmps35
    go_wp2
    go_ret
    exact ⟨by first | rfl | (simp; done) | (simp [*]; done), by repeat (first | exact Drawn0.refl _ | apply Drawn0.step)⟩
  · rw [if_neg c4] at H
    have c4b0 : decide (a1 ≤ a0) = false := decide_eq_false c4
    clear c4
    obtain rfl := Option.some.inj H
    go_enter Try.func35, Try.ntmps35
    go_wp2
    go_ret
    exact ⟨by first | rfl | (simp; done) | (simp [*]; done), by repeat (first | exact Drawn0.refl _ | apply Drawn0.step)⟩

end Go.Proofs.Ytpecdgjddffhjaa.PAll
