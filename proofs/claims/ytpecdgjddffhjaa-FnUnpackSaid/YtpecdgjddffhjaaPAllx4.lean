-- WRITTEN BY A PROGRAM OF THIS SESSION (wip/tools/printall.py) over the kit's print: what each Go function answers, and that the machine's call does so. Lean checks it.
import Derived.Test.YtpecdgjddffhjaaPAllx0
import Derived.Test.YtpecdgjddffhjaaPAllx2
import Derived.Test.YtpecdgjddffhjaaPAllx3
namespace Go.Proofs.Ytpecdgjddffhjaa.PAll
open Go.RowKit Go.Proofs.YtpecdgjddffhjaaW.PrintWords Go.Proofs.YtpecdgjddffhjaaW.PrintLast Go.Proofs.YtpecdgjddffhjaaW.PrintMore
attribute [local go_sem] max2_int min2_int max_two min_two max_three min_three max_four min_four   -- for this text's walks alone
set_option linter.unusedVariables false
set_option linter.unusedSimpArgs false

/-! ### spec.CutCrc, by hand: one great guarded test -/
def spec_CutCrc.f (k : Nat) (l0 : List Int) : Option (List Int × Bool) :=
  if l0.length ≤ 600 ∧ 2 ≤ l0.length then (spec_CrcOf.f k (l0.take (l0.length - 2))).bind fun t => some (if t = wrap64 ((wrap64 ((wrap64 (rd l0 ((l0.length : Int) - 2))) * 256)) + (wrap64 (rd l0 ((l0.length : Int) - 1)))) then (l0.take (l0.length - 2), true) else ([], false))
  else some ([], false)
theorem spec_CutCrc.mono : ∀ a0 k, LeO (spec_CutCrc.f k a0) (spec_CutCrc.f (k + 1) a0) := by
  intro a0 k
  unfold spec_CutCrc.f
  refine LeO.ite ?_ (LeO.refl _)
  exact LeO.bind (spec_CrcOf.mono _ _) (fun _ => LeO.refl _)
set_option maxHeartbeats 2000000 in
set_option maxRecDepth 100000 in
theorem spec_CutCrc.no (A0 : Option Addr) (c0 : Nat) (l0 : List Int) (w : World) (hr0 : Kd.C (Kd.int .u8) w A0 l0.length l0) (hc0 : l0.length ≤ c0) (hl : ¬ (l0.length ≤ 600 ∧ 2 ≤ l0.length)) :
    Calls Try.prog 19 #[.slice A0 l0.length c0] w fun e w' => ∃ v0_ : Value, e = .returned (.tuple #[v0_, .bool false]) ∧ Kd.R (Kd.int .u8) 5 w' w.heap.size (fun _ => True) v0_ [] ∧ Below w.heap.size w w' := by
  have hbig := Kd.C_max hr0
  have HR0 := Aside0.mk hr0
  have HC0 := Aside0.mk hc0
  obtain ⟨y1, hy1⟩ : ∃ y_ : List Int, y_ = ([] : List Int) := ⟨_, rfl⟩
  have Ny1 := Aside0.mk hy1
  clear hy1
  obtain ⟨j, hj⟩ : ∃ j, j = (l0.length : Int) - 2 := ⟨_, rfl⟩
  have w1 : IntKind.i64.wrap ((l0.length : Int) - 2) = j := by rw [IntKind.wrap_i64]; omega
  by_cases h6 : l0.length ≤ 600
  · have A2 := Aside0.mk (show spec_l1Data.f l0 = some true by unfold spec_l1Data.f; rw [decide_eq_true (by omega)])
    have b1 : decide (j < 0) = true := decide_eq_true (by omega)
    clear hr0 hc0 hl hj h6
    go_enter Try.func19, Try.ntmps19
    go_wp2
    go_quiet ((first | (go_at_call 32; (with_reducible refine (spec_l1Data.calls _ _ l0 true _ ?side1 ?side2 A2.out).mono ?_); (case side1 => repeat (first | exact HR0.out | (with_reducible refine Kd.C_alloc ?_ _) | (with_reducible refine Kd.C_drewN ?_ _) | (with_reducible refine Kd.C_drew ?_))); (case side2 => exact HC0.out); rintro e w' ⟨rfl, ⟨nd, rfl⟩⟩; (try first | exact ⟨rfl, _, World.drewN_drewN _ _ _⟩ | exact ⟨rfl, _, Eq.trans (World.drewN_drewN _ _ _) (congrArg (World.drewN _) (Nat.add_assoc _ _ _))⟩))))
    have HB := Aside0.mk (pw_below_drewN (Below.refl w.heap.size w) nq)
    go_wp2_with (first | ((with_reducible refine gate_dst (N := 35) rfl ?_); refine Kd.R_lit (Kd.int .u8) _ 5 ?hg (N := 35) ?hd (xs := ([] : List Int)) (inner := []) (ok := fun _ => True) (okp := fun _ => True) ?hr ?hp (fun _ hk => hk) trivial (Below.refl _ _) (Nat.le_refl _) (by simp) ?_; (case hd => rfl); (case hg => rfl); (case hr => first | (go_simp; done) | (go_simp; rfl)); (case hp => exact (Reps.none _ _)); intro v707 w11 ho12 hb hg_ hnew_; clear hg_ hnew_; (first | rw [← Ny1.out] at ho12 | (simp only [Int.reduceToNat] at ho12; rw [← Ny1.out] at ho12)); have n0_ := Aside0.mk (Kd.R_lower ho12 (below_size (by repeat (first | (with_reducible first | exact HB.out | apply below_alloc | apply pw_below_drewN | apply below_drew1) | exact HB.out)))); have n1_ := Aside0.mk (below_step (by repeat (first | (with_reducible first | exact HB.out | apply below_alloc | apply pw_below_drewN | apply below_drew1) | exact HB.out)) hb); clear HB; have HO708 := n0_; have HB := n1_; clear n0_ n1_; clear hb ho12))
    go_ret2
    exact ⟨_, rfl, (by have h := HO708.out; rw [Ny1.out] at h; exact h), HB.out⟩
  · have A2 := Aside0.mk (show spec_l1Data.f l0 = some false by unfold spec_l1Data.f; rw [decide_eq_false (by omega)])
    clear hr0 hc0 hl hj h6
    go_enter Try.func19, Try.ntmps19
    go_wp2
    go_quiet ((first | (go_at_call 32; (with_reducible refine (spec_l1Data.calls _ _ l0 false _ ?side1 ?side2 A2.out).mono ?_); (case side1 => repeat (first | exact HR0.out | (with_reducible refine Kd.C_alloc ?_ _) | (with_reducible refine Kd.C_drewN ?_ _) | (with_reducible refine Kd.C_drew ?_))); (case side2 => exact HC0.out); rintro e w' ⟨rfl, ⟨nd, rfl⟩⟩; (try first | exact ⟨rfl, _, World.drewN_drewN _ _ _⟩ | exact ⟨rfl, _, Eq.trans (World.drewN_drewN _ _ _) (congrArg (World.drewN _) (Nat.add_assoc _ _ _))⟩))))
    have HB := Aside0.mk (pw_below_drewN (Below.refl w.heap.size w) nq)
    go_wp2_with (first | ((with_reducible refine gate_dst (N := 35) rfl ?_); refine Kd.R_lit (Kd.int .u8) _ 5 ?hg (N := 35) ?hd (xs := ([] : List Int)) (inner := []) (ok := fun _ => True) (okp := fun _ => True) ?hr ?hp (fun _ hk => hk) trivial (Below.refl _ _) (Nat.le_refl _) (by simp) ?_; (case hd => rfl); (case hg => rfl); (case hr => first | (go_simp; done) | (go_simp; rfl)); (case hp => exact (Reps.none _ _)); intro v707 w11 ho12 hb hg_ hnew_; clear hg_ hnew_; (first | rw [← Ny1.out] at ho12 | (simp only [Int.reduceToNat] at ho12; rw [← Ny1.out] at ho12)); have n0_ := Aside0.mk (Kd.R_lower ho12 (below_size (by repeat (first | (with_reducible first | exact HB.out | apply below_alloc | apply pw_below_drewN | apply below_drew1) | exact HB.out)))); have n1_ := Aside0.mk (below_step (by repeat (first | (with_reducible first | exact HB.out | apply below_alloc | apply pw_below_drewN | apply below_drew1) | exact HB.out)) hb); clear HB; have HO708 := n0_; have HB := n1_; clear n0_ n1_; clear hb ho12))
    go_ret2
    exact ⟨_, rfl, (by have h := HO708.out; rw [Ny1.out] at h; exact h), HB.out⟩
set_option maxHeartbeats 4000000 in
set_option maxRecDepth 100000 in
theorem spec_CutCrc.mid (k : Nat) (A0 : Option Addr) (c0 : Nat) (l0 : List Int) (t j i : Int) (w : World) (hr0 : Kd.C (Kd.int .u8) w A0 l0.length l0) (hc0 : l0.length ≤ c0) (h2 : 2 ≤ l0.length) (hl : l0.length ≤ 600)
    (hj : j = (l0.length : Int) - 2) (hi : i = (l0.length : Int) - 1) (ht : spec_CrcOf.f k (l0.take j.toNat) = some t) (r : List Int × Bool) (hr : r = if t = wrap64 ((wrap64 ((wrap64 (rd l0 j)) * 256)) + (wrap64 (rd l0 i))) then (l0.take j.toNat, true) else ([], false)) :
    Calls Try.prog 19 #[.slice A0 l0.length c0] w fun e w' => ∃ v0_ : Value, e = .returned (.tuple #[v0_, .bool r.2]) ∧ Kd.R (Kd.int .u8) 5 w' w.heap.size (fun _ => True) v0_ r.1 ∧ Below w.heap.size w w' := by
  obtain ⟨lt, hlt⟩ : ∃ lt, lt = l0.take j.toNat := ⟨_, rfl⟩
  rw [← hlt] at ht hr
  have LT := Aside0.mk (show lt.length ≤ 600 by rw [hlt, List.length_take]; omega)
  have A2 := Aside0.mk (show spec_l1Data.f l0 = some true by unfold spec_l1Data.f; rw [decide_eq_true (by omega)])
  have A3 := Aside0.mk ht
  have HR0 := Aside0.mk hr0
  have HC0 := Aside0.mk hc0
  obtain ⟨y1, hy1⟩ : ∃ y_ : List Int, y_ = ([] : List Int) := ⟨_, rfl⟩
  have Ny1 := Aside0.mk hy1
  clear hy1
  obtain ⟨ad, rfl, hx0⟩ := Kd.at_int hr0 j (by omega) (by omega)
  obtain ⟨ad1, e1, hx1⟩ := Kd.at_int hr0 i (by omega) (by omega)
  cases e1
  generalize rd l0 i = y at hx1 hr
  generalize rd l0 j = x at hx0 hr
  obtain ⟨i0, hi0, _, hsz, _⟩ := info_parts info5
  obtain ⟨hcut, hA, hC⟩ := print_take_of (P := Try.prog) (Value.int .u8) 0 22 5 .i64 Try.underlying22 hi0 hsz (some ad) c0 l0 j (by omega) (by omega) hc0
  rw [← hlt] at hcut hA hC
  have HRt := Aside0.mk (Kd.C_of_reads (h1 := fun _ => rfl) (hA _ (Kd.reads_of_C hr0)))
  have HCt := Aside0.mk hC
  have w1 : IntKind.i64.wrap ((l0.length : Int) - 2) = j := by rw [IntKind.wrap_i64]; omega
  have w2 : IntKind.i64.wrap (j + 1) = i := by rw [IntKind.wrap_i64]; omega
  have b1 : decide (j < 0) = false := decide_eq_false (by omega)
  have b2 : decide (0 ≤ j) = true := decide_eq_true (by omega)
  have b3 : decide (j < (l0.length : Int)) = true := decide_eq_true (by omega)
  have b4 : decide (0 ≤ i) = true := decide_eq_true (by omega)
  have b5 : decide (i < (l0.length : Int)) = true := decide_eq_true (by omega)
  have p1 : 0 ≤ j := by omega
  have p2 : j < (l0.length : Int) := by omega
  have p3 : 0 ≤ i := by omega
  have p4 : i < (l0.length : Int) := by omega
  clear hA hC hi0 hsz hr0 hc0 ht hj hi h2 hl hlt
  by_cases heq : t = wrap64 ((wrap64 ((wrap64 x) * 256)) + (wrap64 y))
  · rw [if_pos heq] at hr
    subst hr
    have q1 : (t == wrap64 ((wrap64 ((wrap64 x) * 256)) + (wrap64 y))) = true := beq_iff_eq.mpr heq
    have q2 : (t != wrap64 ((wrap64 ((wrap64 x) * 256)) + (wrap64 y))) = false := bne_eq_false_iff_eq.mpr heq
    clear heq
    go_enter Try.func19, Try.ntmps19
    go_wp2
    go_quiet ((first | (go_at_call 32; (with_reducible refine (spec_l1Data.calls _ _ l0 true _ ?side1 ?side2 A2.out).mono ?_); (case side1 => repeat (first | exact HR0.out | (with_reducible refine Kd.C_alloc ?_ _) | (with_reducible refine Kd.C_drewN ?_ _) | (with_reducible refine Kd.C_drew ?_))); (case side2 => exact HC0.out); rintro e w' ⟨rfl, ⟨nd, rfl⟩⟩; (try first | exact ⟨rfl, _, World.drewN_drewN _ _ _⟩ | exact ⟨rfl, _, Eq.trans (World.drewN_drewN _ _ _) (congrArg (World.drewN _) (Nat.add_assoc _ _ _))⟩)) | (go_at_call 31; (with_reducible refine (spec_CrcOf.calls _ _ _ _ _ _ ?side1 ?side2 A3.out).mono ?_); (case side1 => repeat (first | exact HRt.out | (with_reducible refine Kd.C_alloc ?_ _) | (with_reducible refine Kd.C_drewN ?_ _) | (with_reducible refine Kd.C_drew ?_))); (case side2 => exact HCt.out); rintro e w' ⟨rfl, ⟨nd, rfl⟩⟩; (try first | exact ⟨rfl, _, World.drewN_drewN _ _ _⟩ | exact ⟨rfl, _, Eq.trans (World.drewN_drewN _ _ _) (congrArg (World.drewN _) (Nat.add_assoc _ _ _))⟩))))
    have HB := Aside0.mk (pw_below_drewN (Below.refl w.heap.size w) nq)
    go_wp2_with (first | ((with_reducible refine gate_dst (N := 36) rfl ?_); refine Kd.R_lit (Kd.int .u8) _ 5 ?hg (N := 36) ?hd (xs := ([] : List Int)) (inner := []) (ok := fun _ => True) (okp := fun _ => True) ?hr ?hp (fun _ hk => hk) trivial (Below.refl _ _) (Nat.le_refl _) (by simp) ?_; (case hd => rfl); (case hg => rfl); (case hr => first | (go_simp; done) | (go_simp; rfl)); (case hp => exact (Reps.none _ _)); intro v707 w11 ho12 hb hg_ hnew_; clear hg_ hnew_; (first | rw [← Ny1.out] at ho12 | (simp only [Int.reduceToNat] at ho12; rw [← Ny1.out] at ho12)); have n0_ := Aside0.mk (Kd.R_lower ho12 (below_size (by repeat (first | (with_reducible first | exact HB.out | apply below_alloc | apply pw_below_drewN | apply below_drew1) | exact HB.out)))); have n1_ := Aside0.mk (below_step (by repeat (first | (with_reducible first | exact HB.out | apply below_alloc | apply pw_below_drewN | apply below_drew1) | exact HB.out)) hb); clear HB; have HO708 := n0_; have HB := n1_; clear n0_ n1_; clear hb ho12) | ((with_reducible refine gate_builtin (b := .append) (xs := #[.tmp 36, .tmp 39]) rfl ?_); at_builtin; refine Kd.R_append_rows (Kd.int .u8) (w0 := w) w.heap.size rfl (.tmp 36) (.tmp 39) 22 5 (.int .u8 0) 1 rfl Try.underlying22 info5 rfl (by decide) (by omega) v707 y1 lt _ _ _ (fun _ => True) (fun _ => False) rfl rfl ?aO ?aR (fun _ _ h => h) (fun _ h => h.elim) ?aF ?aB ?aS ?aL ?_; (case aR => repeat (first | exact (Kd.C_below HRt.out HB.out) | (with_reducible refine Kd.C_alloc ?_ _) | (with_reducible refine Kd.C_drewN ?_ _) | (with_reducible refine Kd.C_drew ?_))); (case aB => exact (by repeat (first | (with_reducible first | exact HB.out | apply below_alloc | apply pw_below_drewN | apply below_drew1) | exact HB.out))); (case aF => exact (fun _ _ => trivial)); (case aO => exact (by (with_reducible repeat (first | apply Kd.R_alloc | apply Kd.R_drewN | apply Kd.R_drew)); exact HO708.out)); (case aS => exact (below_size (by repeat (first | (with_reducible first | exact HB.out | apply below_alloc | apply pw_below_drewN | apply below_drew1) | exact HB.out)))); (case aL => have := LT.out; have := Ny1.out; subst this; simp; omega); intro v710 w13 ho hb hg hat; have n0_ := Aside0.mk (hb); have n1_ := Aside0.mk (ho); clear HB; clear HO708; have HB := n0_; have HO711 := n1_; clear n0_ n1_; clear ho hb hg hat))
    go_ret2
    exact ⟨_, rfl, (by have h := HO711.out; rw [Ny1.out, List.nil_append] at h; exact h), HB.out⟩
  · rw [if_neg heq] at hr
    subst hr
    have q1 : (t == wrap64 ((wrap64 ((wrap64 x) * 256)) + (wrap64 y))) = false := beq_eq_false_iff_ne.mpr heq
    have q2 : (t != wrap64 ((wrap64 ((wrap64 x) * 256)) + (wrap64 y))) = true := bne_iff_ne.mpr heq
    clear heq
    go_enter Try.func19, Try.ntmps19
    go_wp2
    go_quiet ((first | (go_at_call 32; (with_reducible refine (spec_l1Data.calls _ _ l0 true _ ?side1 ?side2 A2.out).mono ?_); (case side1 => repeat (first | exact HR0.out | (with_reducible refine Kd.C_alloc ?_ _) | (with_reducible refine Kd.C_drewN ?_ _) | (with_reducible refine Kd.C_drew ?_))); (case side2 => exact HC0.out); rintro e w' ⟨rfl, ⟨nd, rfl⟩⟩; (try first | exact ⟨rfl, _, World.drewN_drewN _ _ _⟩ | exact ⟨rfl, _, Eq.trans (World.drewN_drewN _ _ _) (congrArg (World.drewN _) (Nat.add_assoc _ _ _))⟩)) | (go_at_call 31; (with_reducible refine (spec_CrcOf.calls _ _ _ _ _ _ ?side1 ?side2 A3.out).mono ?_); (case side1 => repeat (first | exact HRt.out | (with_reducible refine Kd.C_alloc ?_ _) | (with_reducible refine Kd.C_drewN ?_ _) | (with_reducible refine Kd.C_drew ?_))); (case side2 => exact HCt.out); rintro e w' ⟨rfl, ⟨nd, rfl⟩⟩; (try first | exact ⟨rfl, _, World.drewN_drewN _ _ _⟩ | exact ⟨rfl, _, Eq.trans (World.drewN_drewN _ _ _) (congrArg (World.drewN _) (Nat.add_assoc _ _ _))⟩))))
    have HB := Aside0.mk (pw_below_drewN (Below.refl w.heap.size w) nq)
    go_wp2_with (first | ((with_reducible refine gate_dst (N := 35) rfl ?_); refine Kd.R_lit (Kd.int .u8) _ 5 ?hg (N := 35) ?hd (xs := ([] : List Int)) (inner := []) (ok := fun _ => True) (okp := fun _ => True) ?hr ?hp (fun _ hk => hk) trivial (Below.refl _ _) (Nat.le_refl _) (by simp) ?_; (case hd => rfl); (case hg => rfl); (case hr => first | (go_simp; done) | (go_simp; rfl)); (case hp => exact (Reps.none _ _)); intro v707 w11 ho12 hb hg_ hnew_; clear hg_ hnew_; (first | rw [← Ny1.out] at ho12 | (simp only [Int.reduceToNat] at ho12; rw [← Ny1.out] at ho12)); have n0_ := Aside0.mk (Kd.R_lower ho12 (below_size (by repeat (first | (with_reducible first | exact HB.out | apply below_alloc | apply pw_below_drewN | apply below_drew1) | exact HB.out)))); have n1_ := Aside0.mk (below_step (by repeat (first | (with_reducible first | exact HB.out | apply below_alloc | apply pw_below_drewN | apply below_drew1) | exact HB.out)) hb); clear HB; have HO708 := n0_; have HB := n1_; clear n0_ n1_; clear hb ho12))
    go_ret2
    exact ⟨_, rfl, (by have h := HO708.out; rw [Ny1.out] at h; exact h), HB.out⟩
theorem spec_CutCrc.calls (k : Nat) (A0 : Option Addr) (c0 : Nat) (l0 : List Int) (r1 : List Int) (r2 : Bool) (w : World) (hr0 : Kd.C (Kd.int .u8) w A0 l0.length l0) (hc0 : l0.length ≤ c0) (h : spec_CutCrc.f k l0 = some (r1, r2)) :
    Calls Try.prog 19 #[.slice A0 l0.length c0] w fun e w' => ∃ v0_ : Value, e = .returned (.tuple #[v0_, .bool r2]) ∧ Kd.R (Kd.int .u8) 5 w' w.heap.size (fun _ => True) v0_ r1 ∧ Below w.heap.size w w' := by
  unfold spec_CutCrc.f at h
  by_cases hc : l0.length ≤ 600 ∧ 2 ≤ l0.length
  · rw [if_pos hc] at h
    obtain ⟨t, ht, h⟩ := Option.bind_eq_some_iff.mp h
    exact spec_CutCrc.mid k A0 c0 l0 t ((l0.length : Int) - 2) ((l0.length : Int) - 1) w hr0 hc0 hc.2 hc.1 rfl rfl (by rw [show (((l0.length : Int) - 2).toNat) = l0.length - 2 by omega]; exact ht) (r1, r2) (by rw [show (((l0.length : Int) - 2).toNat) = l0.length - 2 by omega]; exact (Option.some.inj h).symm)
  · rw [if_neg hc] at h
    simp only [Option.some.injEq, Prod.mk.injEq] at h
    obtain ⟨rfl, rfl⟩ := h
    exact spec_CutCrc.no A0 c0 l0 w hr0 hc0 hc

end Go.Proofs.Ytpecdgjddffhjaa.PAll
