-- WRITTEN BY A PROGRAM OF THIS SESSION (wip/tools/printall.py) over the kit's print: what each Go function answers, and that the machine's call does so. Lean checks it.
import Derived.Test.YtpifogfnafogaaaDoorPAllx0
import Derived.Test.YtpifogfnafogaaaDoorPAllx3
namespace Go.Proofs.YtpifogfnafogaaaDoor.PAll
open Go.RowKit Go.Proofs.YtpifogfnafogaaaDoorW.PrintWords Go.Proofs.YtpifogfnafogaaaDoorW.PrintLast Go.Proofs.YtpifogfnafogaaaDoorW.PrintMore
attribute [local go_sem] max2_int min2_int max_two min_two max_three min_three max_four min_four   -- for this text's walks alone
set_option linter.unusedVariables false
set_option linter.unusedSimpArgs false

/-! ### impl_EncodeBytes: function 19 -/
def impl_EncodeBytes.l0 : Nat → List Int → List Int → Int → Int → Option (List Int)
  | 0, _, _, _, _ => none
  | k + 1, x3, x9, x10, x11 => if x11 < x10 then (if 0 ≤ x11 then (if x11 < (x9.length : Int) then ((impl_EncodeNibble.f (wrap64 ((rd x9 x11) / 16))).bind fun t135 => ((impl_EncodeNibble.f (wrap64 (Go.bits .and .u8 (rd x9 x11) 15))).bind fun t136 => ((some (([(t135) % 256, (t136) % 256] : List Int) : List Int)).bind fun y137 => (if x3.length + y137.length < 140737488355328 then (impl_EncodeBytes.l0 k (x3 ++ y137) x9 x10 (wrap64 (x11 + 1))) else (none))))) else (none)) else (none)) else (some x3)
def impl_EncodeBytes.f (k : Nat) (l0 : List Int) : Option (List Int) := (impl_isData.f l0).bind fun t133 => (if t133 = true then (impl_EncodeBytes.l0 k ([] : List Int) l0 (l0.length : Int) 0) else (some ([] : List Int)))
theorem impl_EncodeBytes.mono_l : ∀ k, (∀ y0 y1 y2 y3, LeO (impl_EncodeBytes.l0 k y0 y1 y2 y3) (impl_EncodeBytes.l0 (k + 1) y0 y1 y2 y3))
  | 0 => fun _ _ _ _ r h => by simp [impl_EncodeBytes.l0] at h
  | k + 1 => by
    have ih0 := impl_EncodeBytes.mono_l k
    · intro y0 y1 y2 y3
      unfold impl_EncodeBytes.l0
      repeat' first
      | (with_reducible exact ih0 _ _ _ _)
      | (with_reducible exact LeO.refl _)
      | (with_reducible exact LeO.none _)
      | (with_reducible refine LeO.ite ?_ ?_)
      | (with_reducible refine LeO.bind ?_ (fun _ => ?_))
      | exact ih0 _ _ _ _
      | exact LeO.none _
      | refine LeO.ite ?_ ?_
      | refine LeO.bind ?_ (fun _ => ?_)
theorem impl_EncodeBytes.mono : ∀ a0 k, LeO (impl_EncodeBytes.f k a0) (impl_EncodeBytes.f (k + 1) a0) := by
  intro a0 k
  have ih0 := impl_EncodeBytes.mono_l k
  unfold impl_EncodeBytes.f
  repeat' first
      | (with_reducible exact ih0 _ _ _ _)
      | (with_reducible exact LeO.refl _)
      | (with_reducible exact LeO.none _)
      | (with_reducible refine LeO.ite ?_ ?_)
      | (with_reducible refine LeO.bind ?_ (fun _ => ?_))
      | exact ih0 _ _ _ _
      | exact LeO.none _
      | refine LeO.ite ?_ ?_
      | refine LeO.bind ?_ (fun _ => ?_)
set_option maxHeartbeats 8000000 in
set_option maxRecDepth 100000 in
theorem impl_EncodeBytes.calls (k : Nat) (A0 : Option Addr) (c0 : Nat) (l0 : List Int) (r : List Int) (w : World) (hr0 : Kd.C (Kd.int .u8) w A0 l0.length l0) (hc0 : l0.length ≤ c0) (hG : Base.RulesAt w) (h : impl_EncodeBytes.f k l0 = some r) :
    Calls Tryd.prog 19 #[.slice A0 l0.length c0] w fun e w' => ∃ v0_ : Value, e = .returned (v0_) ∧ Kd.R (Kd.int .u8) 5 w' w.heap.size (fun _ => True) v0_ r ∧ Below w.heap.size w w' := by
  have HR0 := Aside0.mk hr0
  have HC0 := Aside0.mk hc0
  clear hr0 hc0
  have HB := Aside0.mk (Below.refl w.heap.size w)
  have H : ((impl_isData.f l0).bind fun t133 => (if t133 = true then (impl_EncodeBytes.l0 k ([] : List Int) l0 (l0.length : Int) 0) else (some ([] : List Int)))) = some r := h
  clear h
  replace H := Option.bind_eq_some_iff.mp H
  obtain ⟨t133, A20, H⟩ := H
  replace H : (if t133 = true then (impl_EncodeBytes.l0 k ([] : List Int) l0 (l0.length : Int) 0) else (some ([] : List Int))) = some r := H
  have A2 := Aside0.mk A20
  clear A20
  by_cases c3 : t133 = true
  · subst c3
    have H1 : (impl_EncodeBytes.l0 k ([] : List Int) l0 (l0.length : Int) 0) = some r := by rw [if_pos rfl] at H; exact H
    clear H
    have H := H1
    clear H1
    have H' := Aside0.mk H
    clear H
    go_enter Tryd.func19, Tryd.ntmps19
    go_wp2_with (first | ((with_reducible refine gate_callee (f := 36) rfl ?_); refine goesL_ (some 7) rfl rfl Tryd.func36 (by kernel_rfl) rfl #[.slice A0 l0.length c0] rfl (by (try simp only [List.map_toArray, List.map_cons, List.map_nil]); first | done | rfl | (simp only [List.length_drop, List.length_take]; rfl)) ?_; (with_reducible refine (impl_isData.calls _ _ l0 true _ ?side1 ?side2 A2.out).mono ?_); (case side1 => repeat (first | exact HR0.out | (with_reducible refine Kd.C_alloc ?_ _) | (with_reducible refine Kd.C_drewN ?_ _) | (with_reducible refine Kd.C_drew ?_))); (case side2 => exact HC0.out); rintro e w' ⟨rfl, ⟨nd, rfl⟩⟩; refine ⟨_, rfl, ?_⟩))
    go_loopg [3, 11] k (fun kq v3 v11 w' => ∃ (x3_1 : List Int) (x11_1 : Int), v11 = .int .i64 x11_1 ∧ Aside0 (impl_EncodeBytes.l0 kq x3_1 l0 (l0.length : Int) x11_1 = some r) ∧ Aside0 (kq ≤ k) ∧ Aside0 (Kd.R (Kd.int .u8) 5 w' w.heap.size (fun _ => True) v3 x3_1) ∧ Aside0 (Below w.heap.size w w'))
    case atStart => exact ⟨(([] : List Int)), (0), (by first | rfl | (simp; done) | (simp [*]; done)), H', ⟨Nat.le_refl _⟩, ⟨by first | exact Kd.R_nil _ _ _ _ _ | exact Kd.N_nil _ _ _ _ _ | exact Kd.V_nil _ _ _ _ _ | exact Kd.Q_nil _ _ _ _ _ | exact Kd.S_nil _ _ _ _ _⟩, ⟨by repeat (first | (with_reducible first | exact HB.out | apply below_alloc | apply pw_below_drewN | apply below_drew1) | exact HB.out)⟩⟩
    case round =>
      clear H'
      try clear c1
      try clear p2
      try clear c3
      obtain ⟨x3_1, x11_1, rfl, HA, HK1, HO_3, HB⟩ := hrel
      cases gk with
      | zero => exact absurd HA.out (by simp [impl_EncodeBytes.l0])
      | succ k1 =>
        have H := HA.out
        clear HA
        simp only [impl_EncodeBytes.l0] at H
        by_cases c4 : x11_1 < (l0.length : Int)
        · rw [if_pos c4] at H
          have c4b0 : decide (x11_1 < (l0.length : Int)) = true := decide_eq_true c4
          clear c4
          by_cases c5 : 0 ≤ x11_1
          · rw [if_pos c5] at H
            have c5b0 : decide (0 ≤ x11_1) = true := decide_eq_true c5
            clear c5
            by_cases c6 : x11_1 < (l0.length : Int)
            · rw [if_pos c6] at H
              have c6b0 : decide (x11_1 < (l0.length : Int)) = true := decide_eq_true c6
              clear c6
              replace H := Option.bind_eq_some_iff.mp H
              obtain ⟨t135, A70, H⟩ := H
              replace H : ((impl_EncodeNibble.f (wrap64 (Go.bits .and .u8 (rd l0 x11_1) 15))).bind fun t136 => ((some (([(t135) % 256, (t136) % 256] : List Int) : List Int)).bind fun y137 => (if x3_1.length + y137.length < 140737488355328 then (impl_EncodeBytes.l0 k1 (x3_1 ++ y137) l0 (l0.length : Int) (wrap64 (x11_1 + 1))) else (none)))) = some r := H
              have A7 := Aside0.mk A70
              clear A70
              replace H := Option.bind_eq_some_iff.mp H
              obtain ⟨t136, A80, H⟩ := H
              replace H : ((some (([(t135) % 256, (t136) % 256] : List Int) : List Int)).bind fun y137 => (if x3_1.length + y137.length < 140737488355328 then (impl_EncodeBytes.l0 k1 (x3_1 ++ y137) l0 (l0.length : Int) (wrap64 (x11_1 + 1))) else (none))) = some r := H
              have A8 := Aside0.mk A80
              clear A80
              obtain ⟨y137, hy137⟩ : ∃ y_ : List Int, y_ = (([(t135) % 256, (t136) % 256] : List Int)) := ⟨_, rfl⟩
              replace H : (if x3_1.length + y137.length < 140737488355328 then (impl_EncodeBytes.l0 k1 (x3_1 ++ y137) l0 (l0.length : Int) (wrap64 (x11_1 + 1))) else (none)) = some r := by first | (rw [hy137]; with_reducible exact H) | (have H2_ := (Option.bind_some _ _).symm.trans H; rw [hy137]; with_reducible exact H2_) | (have H2_ := (Option.bind_some _ _).symm.trans H; with_reducible exact H2_) | with_reducible exact H | (rw [hy137]; exact H) | exact H
              have Ny137 := Aside0.mk hy137
              clear hy137
              by_cases c9 : x3_1.length + y137.length < 140737488355328
              · rw [if_pos c9] at H
                have LMc9 := Aside0.mk c9
                clear c9
                obtain ⟨y140, hy140⟩ : ∃ y_ : List Int, y_ = (x3_1 ++ y137) := ⟨_, rfl⟩
                replace H : (impl_EncodeBytes.l0 k1 y140 l0 (l0.length : Int) (wrap64 (x11_1 + 1))) = some r := by first | (rw [hy140]; with_reducible exact H) | (have H2_ := (Option.bind_some _ _).symm.trans H; rw [hy140]; with_reducible exact H2_) | (have H2_ := (Option.bind_some _ _).symm.trans H; with_reducible exact H2_) | with_reducible exact H | (rw [hy140]; exact H) | exact H
                have Ny140 := Aside0.mk hy140
                clear hy140
                have H' := Aside0.mk H
                clear H
                have p134 : 0 ≤ (x11_1 : Int) := of_decide_eq_true (by first | (with_reducible assumption) | assumption)
                have q134 : x11_1 < (l0.length : Int) := of_decide_eq_true (by first | (with_reducible assumption) | assumption)
                obtain ⟨ad134, e134, hx134_0⟩ := Kd.at_int HR0.out x11_1 p134 q134
                cases e134
                replace hx134_0 := (HB.out.cell (World.block_lt_of_cell? w _ hx134_0)).trans hx134_0
                replace p134 := eq_true p134
                replace q134 := eq_true q134
                go_wp2_with (first | ((with_reducible refine gate_callee (f := 12) rfl ?_); refine goesL_ (some 19) rfl rfl Tryd.func12 (by kernel_rfl) rfl #[.int .i64 (wrap64 ((rd l0 x11_1) / 16))] rfl (by (try simp only [List.map_toArray, List.map_cons, List.map_nil]); first | done | rfl | (simp only [List.length_drop, List.length_take]; rfl)) ?_; (with_reducible refine (impl_EncodeNibble.calls (wrap64 ((rd l0 x11_1) / 16)) t135 _ ?sideG A7.out).mono ?_); (case sideG => exact hG.below (by repeat (first | (with_reducible first | exact HB.out | apply below_alloc | apply pw_below_drewN | apply below_drew1) | exact HB.out)) rfl); rintro e w10 ⟨rfl, hb⟩; refine ⟨_, rfl, ?_⟩; have n0_ := Aside0.mk (Kd.R_below (by (with_reducible repeat (first | apply Kd.R_alloc | apply Kd.R_drewN | apply Kd.R_drew)); exact HO_3.out) hb); have n1_ := Aside0.mk (below_step (by repeat (first | (with_reducible first | exact HB.out | apply below_alloc | apply pw_below_drewN | apply below_drew1) | exact HB.out)) hb); clear HO_3; clear HB; have HO_3 := n0_; have HB := n1_; clear n0_ n1_; (try clear hb); (try clear hb2); (try clear hk); (try clear hi)) | ((with_reducible refine gate_callee (f := 12) rfl ?_); refine goesL_ (some 24) rfl rfl Tryd.func12 (by kernel_rfl) rfl #[.int .i64 (wrap64 (Go.bits .and .u8 (rd l0 x11_1) 15))] rfl (by (try simp only [List.map_toArray, List.map_cons, List.map_nil]); first | done | rfl | (simp only [List.length_drop, List.length_take]; rfl)) ?_; (with_reducible refine (impl_EncodeNibble.calls (wrap64 (Go.bits .and .u8 (rd l0 x11_1) 15)) t136 _ ?sideG A8.out).mono ?_); (case sideG => exact hG.below (by repeat (first | (with_reducible first | exact HB.out | apply below_alloc | apply pw_below_drewN | apply below_drew1) | exact HB.out)) rfl); rintro e w11 ⟨rfl, hb⟩; refine ⟨_, rfl, ?_⟩; have n0_ := Aside0.mk (Kd.R_below (by (with_reducible repeat (first | apply Kd.R_alloc | apply Kd.R_drewN | apply Kd.R_drew)); exact HO_3.out) hb); have n1_ := Aside0.mk (below_step (by repeat (first | (with_reducible first | exact HB.out | apply below_alloc | apply pw_below_drewN | apply below_drew1) | exact HB.out)) hb); clear HO_3; clear HB; have HO_3 := n0_; have HB := n1_; clear n0_ n1_; (try clear hb); (try clear hb2); (try clear hk); (try clear hi)) | ((with_reducible refine gate_dst (N := 26) rfl ?_); refine Kd.R_lit (Kd.int .u8) _ 5 ?hg (N := 26) ?hd (xs := ([(t135) % 256, (t136) % 256] : List Int)) (inner := [.int .u8 ((t135) % 256), .int .u8 ((t136) % 256)]) (ok := fun _ => True) (okp := fun _ => True) ?hr ?hp (fun _ hk => hk) trivial (Below.refl _ _) (Nat.le_refl _) (by simp) ?_; (case hd => rfl); (case hg => rfl); (case hr => first | (go_simp; done) | (go_simp; rfl)); (case hp => exact (Reps.one (show Kd.M (Kd.int .u8) _ _ _ ((t135) % 256) [.int .u8 ((t135) % 256)] from rfl) (Reps.one (show Kd.M (Kd.int .u8) _ _ _ ((t136) % 256) [.int .u8 ((t136) % 256)] from rfl) (Reps.none _ _)))); intro v138 w12 ho13 hb hg_ hnew_; clear hg_ hnew_; (first | rw [← Ny137.out] at ho13 | (simp only [Int.reduceToNat] at ho13; rw [← Ny137.out] at ho13)); have n0_ := Aside0.mk (Kd.R_elder' (by (with_reducible repeat (first | apply Kd.R_alloc | apply Kd.R_drewN | apply Kd.R_drew)); exact HO_3.out) (Kd.R_base ho13) hb); have n1_ := Aside0.mk (Kd.R_lower (Kd.R_new' ho13 (Kd.R_lt (by (with_reducible repeat (first | apply Kd.R_alloc | apply Kd.R_drewN | apply Kd.R_drew)); exact HO_3.out))) (below_size (by repeat (first | (with_reducible first | exact HB.out | apply below_alloc | apply pw_below_drewN | apply below_drew1) | exact HB.out)))); have n2_ := Aside0.mk (below_step (by repeat (first | (with_reducible first | exact HB.out | apply below_alloc | apply pw_below_drewN | apply below_drew1) | exact HB.out)) hb); clear HO_3; clear HB; have HO_3 := n0_; have HO139 := n1_; have HB := n2_; clear n0_ n1_ n2_; clear hb ho13; obtain ⟨Ao15, co15, eo15⟩ := Kd.R_slice HO139.out; subst eo15) | ((with_reducible refine gate_builtin (b := .append) (xs := #[.tmp 15, .tmp 26]) rfl ?_); at_builtin; refine Kd.R_append_rows (Kd.int .u8) (w0 := w) w.heap.size rfl (.tmp 15) (.tmp 26) 26 5 (.int .u8 0) 1 rfl Tryd.underlying26 info5 rfl (by decide) (by omega) u3 x3_1 y137 _ _ _ (fun k_ => some k_ ≠ (.slice Ao15 y137.length co15 : Value).ownBlock) (fun _ => False) rfl rfl ?aO ?aR (fun _ _ h => h) (fun _ h => h.elim) ?aF ?aB ?aS ?aL ?_; (case aR => repeat (first | exact (Kd.R_reads' HO139.out).2.2 | (with_reducible refine Kd.C_alloc ?_ _) | (with_reducible refine Kd.C_drewN ?_ _) | (with_reducible refine Kd.C_drew ?_))); (case aB => exact (by repeat (first | (with_reducible first | exact HB.out | apply below_alloc | apply pw_below_drewN | apply below_drew1) | exact HB.out))); (case aF => exact (fun k_ hk => Kd.fresh' (Kd.R_lt (by (with_reducible repeat (first | apply Kd.R_alloc | apply Kd.R_drewN | apply Kd.R_drew)); exact HO139.out)) k_ hk)); (case aO => exact (by (with_reducible repeat (first | apply Kd.R_alloc | apply Kd.R_drewN | apply Kd.R_drew)); exact Kd.R_mono HO_3.out (fun _ hk => hk.2))); (case aS => exact (below_size (by repeat (first | (with_reducible first | exact HB.out | apply below_alloc | apply pw_below_drewN | apply below_drew1) | exact HB.out)))); (case aL => have := LMc9.out; omega); intro v141 w14 ho hb hg hat; rw [← Ny140.out] at ho; have n0_ := Aside0.mk (Kd.R_after (ok := (fun _ => True)) (by (with_reducible repeat (first | apply Kd.R_alloc | apply Kd.R_drewN | apply Kd.R_drew)); exact HO139.out) hg hat); have n1_ := Aside0.mk (hb); have n2_ := Aside0.mk (ho); clear HO139; clear HB; clear HO_3; have HO139 := n0_; have HB := n1_; have HO142 := n2_; clear n0_ n1_ n2_; clear ho hb hg hat))
                go_roundg k1
                case measure => have := HK1.out; omega
                case rel => exact ⟨(y140), (wrap64 (x11_1 + 1)), (by first | rfl | (simp; done) | (simp [*]; done)), H', ⟨by have := HK1.out; omega⟩, ⟨by (with_reducible repeat (first | apply Kd.R_alloc | apply Kd.R_drewN | apply Kd.R_drew)); exact Kd.R_mono HO142.out (fun _ hk => trivial)⟩, ⟨by repeat (first | (with_reducible first | exact HB.out | apply below_alloc | apply pw_below_drewN | apply below_drew1) | exact HB.out)⟩⟩
              · rw [if_neg c9] at H
                exact absurd H (by simp)
            · rw [if_neg c6] at H
              exact absurd H (by simp)
          · rw [if_neg c5] at H
            exact absurd H (by simp)
        · rw [if_neg c4] at H
          have c4b0 : decide (x11_1 < (l0.length : Int)) = false := decide_eq_false c4
          clear c4
          obtain rfl := Option.some.inj H
          go_wp2
          go_ret
          exact ⟨_, by first | rfl | (simp [errW_none, errW_some] <;> rfl) | (simp [*, errW_none, errW_some] <;> rfl), by (with_reducible repeat (first | apply Kd.R_alloc | apply Kd.R_drewN | apply Kd.R_drew)); exact HO_3.out, by repeat (first | (with_reducible first | exact HB.out | apply below_alloc | apply pw_below_drewN | apply below_drew1) | exact HB.out)⟩
  · replace c3 := Bool.eq_false_iff.mpr c3
    subst c3
    have H1 : (some ([] : List Int)) = some r := by rw [if_neg (show ¬ (false = true) by decide)] at H; exact H
    clear H
    have H := H1
    clear H1
    obtain rfl := Option.some.inj H
    go_enter Tryd.func19, Tryd.ntmps19
    go_wp2_with (first | ((with_reducible refine gate_callee (f := 36) rfl ?_); refine goesL_ (some 7) rfl rfl Tryd.func36 (by kernel_rfl) rfl #[.slice A0 l0.length c0] rfl (by (try simp only [List.map_toArray, List.map_cons, List.map_nil]); first | done | rfl | (simp only [List.length_drop, List.length_take]; rfl)) ?_; (with_reducible refine (impl_isData.calls _ _ l0 false _ ?side1 ?side2 A2.out).mono ?_); (case side1 => repeat (first | exact HR0.out | (with_reducible refine Kd.C_alloc ?_ _) | (with_reducible refine Kd.C_drewN ?_ _) | (with_reducible refine Kd.C_drew ?_))); (case side2 => exact HC0.out); rintro e w' ⟨rfl, ⟨nd, rfl⟩⟩; refine ⟨_, rfl, ?_⟩))
    go_ret
    exact ⟨_, by first | rfl | (simp [errW_none, errW_some] <;> rfl) | (simp [*, errW_none, errW_some] <;> rfl), by first | exact Kd.R_nil _ _ _ _ _ | exact Kd.N_nil _ _ _ _ _ | exact Kd.V_nil _ _ _ _ _ | exact Kd.Q_nil _ _ _ _ _ | exact Kd.S_nil _ _ _ _ _, by repeat (first | (with_reducible first | exact HB.out | apply below_alloc | apply pw_below_drewN | apply below_drew1) | exact HB.out)⟩

-- IMPORT HNib
/-! ### impl.DecodeNibble, by hand: a range over the map of rules (HNib) -/
attribute [local go_sem] Base.idx0 Base.idx1 Base.idx2 Base.idx3
theorem w64__ {x : Int} (h1 : -9223372036854775808 ≤ x) (h2 : x ≤ 9223372036854775807) : wrap64 x = x := by
  unfold wrap64
  omega
theorem place_at_ (o i : Int) (k : Nat) (hi : 1 ≤ i ∧ i ≤ 7) (hk : 7 - i = k) : impl_place.f o i = some (Base.pl o k) := by
  have e : wrap64 (7 - i) = k := by
    rw [← hk]
    exact w64__ (by omega) (by omega)
  unfold impl_place.f
  rw [e, if_pos (by omega)]
  have : min (k : Int).toNat 64 = k := by omega
  show some (Go.bits .and .i64 (o / 2 ^ min (k : Int).toNat 64) 1) = _
  rw [this]
  rfl
set_option maxHeartbeats 8000000 in
set_option maxRecDepth 100000 in
theorem impl_DecodeNibble.go (a0 : Int) (w : World) (hG : Base.RulesAt w) : Calls Tryd.prog 14 #[.int .i64 a0] w fun e w' => e = .returned (.tuple #[.int .i64 (Base.decN a0).1, .int .i64 (Base.decN a0).2]) ∧ Below w.heap.size w w' := by
  have hw := fun W => impl_within.calls a0 0 127 (decide (0 ≤ a0 ∧ a0 ≤ 127)) W (by unfold impl_within.f; by_cases h : 0 ≤ a0 <;> simp [h])
  obtain ⟨H, R, bm, n_, hcell, hown, hR⟩ := hG
  by_cases ha : 0 ≤ a0 ∧ a0 ≤ 127
  · rw [decide_eq_true ha] at hw
    obtain ⟨m, rfl⟩ := Base.fin7_of ha
    go_enter Tryd.func14, Tryd.ntmps14
    go_wp2_with (first
      | (go_at_call 30; refine (hw _).mono ?_; rintro e w' ⟨rfl, ⟨q, rfl⟩⟩)
      | (at_range; refine wpList_range_own _ rfl _ 37 rfl 3 38 Base.law Tryd.underlying37 _ bm n_ _ rfl (Base.ownsMap_drewN hown _) ?_; intro w0 hrg0 hg0 hs0)
      | go_in)
    (try go_frame)
    have hb0 : Below w.heap.size w w0 := (pw_below_drewN (Below.refl _ _) q).grown hg0 (by simp) (fun j hj => by cases hj)
    have hrg0 : w0.ranges Tryd.prog 3 R bm w.heap.size n_ (Base.tabD (H := H)) (Maps.has (Base.tabD (H := H))) (Maps.size (Base.tabD (H := H))) := by simpa using hrg0
    (try simp only [World.heap_drewN])
    clear hg0 hs0
    go_loopw [4] (fun o wr => ∃ (left : Lit → Bool) (cnt : Nat), o = .int .i64 (Base.decW (m.1 : Nat) (left (.int .i64 1)) (left (.int .i64 2)) (left (.int .i64 4))) ∧ wr.ranges Tryd.prog 3 R bm w.heap.size n_ (Base.tabD (H := H)) left cnt ∧ (∀ z, left z = true → Maps.has (Base.tabD (H := H)) z = true) ∧ Below w.heap.size w wr)
      (fun _ wr => wr.rangeLeft bm w.heap.size)
    case atStart => exact ⟨_, _, by rw [(Base.has_key (H := H)).1, (Base.has_key (H := H)).2.1, (Base.has_key (H := H)).2.2]; rfl, hrg0, fun _ h => h, hb0⟩
    case round =>
      obtain ⟨left, cnt, ho, hrg, hhas, hb⟩ := hrel
      obtain ⟨o, hoe⟩ : ∃ o, Base.decW (m.1 : Nat) (left (.int .i64 1)) (left (.int .i64 2)) (left (.int .i64 4)) = o := ⟨_, rfl⟩
      rw [hoe] at ho
      subst ho
      go_wp2_with (first
        | (at_next; refine wpList_next_ranges _ rfl _ rfl 3 Base.law R (Value.int .i64) (fun v => v) (fun key kl hk => by obtain ⟨x, hx, _⟩ := Maps.keyOf_int_inv Tryd.underlying3 hk; exact ⟨x, hx⟩) (fun v _ _ => ⟨v, rfl⟩) bm w.heap.size n_ _ _ _ rfl hrg ?_ ?_)
        | go_in)
      · intro _ hl0
        rw [hl0, hl0, hl0] at hoe
        have hr := Base.dec_range m
        rw [hoe] at hr
        have p3 := fun (o : Int) W => impl_place.calls o 3 (Base.pl o 4) W (place_at_ _ _ _ (by omega) rfl)
        have p5 := fun (o : Int) W => impl_place.calls o 5 (Base.pl o 2) W (place_at_ _ _ _ (by omega) rfl)
        have p6 := fun (o : Int) W => impl_place.calls o 6 (Base.pl o 1) W (place_at_ _ _ _ (by omega) rfl)
        have p7 := fun (o : Int) W => impl_place.calls o 7 (Base.pl o 0) W (place_at_ _ _ _ (by omega) rfl)
        have hd : Base.decN (m.1 : Nat) = (Base.fourN (Base.decO (m.1 : Nat) o), o) := by rw [Base.decN, if_pos ha, hoe]
        clear hw hR hcell hown hrg0 hrg hl0 hhas
        rcases hr with rfl | rfl | rfl | rfl | rfl | rfl | rfl | rfl
        all_goals
          go_wp2
          refine wp_loop_rounds 5 ?_
          rw [rounds_succ]; go_wp2_with (first | (go_at_call 31; refine (p3 _ _).mono ?_; rintro e w' ⟨rfl, ⟨q, rfl⟩⟩) | go_in)
          rw [rounds_succ]; go_wp2_with (first | (go_at_call 31; refine (p5 _ _).mono ?_; rintro e w' ⟨rfl, ⟨q, rfl⟩⟩) | go_in)
          rw [rounds_succ]; go_wp2_with (first | (go_at_call 31; refine (p6 _ _).mono ?_; rintro e w' ⟨rfl, ⟨q, rfl⟩⟩) | go_in)
          rw [rounds_succ]; go_wp2_with (first | (go_at_call 31; refine (p7 _ _).mono ?_; rintro e w' ⟨rfl, ⟨q, rfl⟩⟩) | go_in)
          rw [rounds_succ]
          go_wp2
          go_ret2
          rw [hd]
          refine ⟨?_, pw_below_drewN hb _⟩
          first | exact congrArg (fun z => Ending.returned (.tuple #[.int .i64 z, .int .i64 0])) (Base.end0 m) | exact congrArg (fun z => Ending.returned (.tuple #[.int .i64 z, .int .i64 1])) (Base.end1 m) | exact congrArg (fun z => Ending.returned (.tuple #[.int .i64 z, .int .i64 2])) (Base.end2 m) | exact congrArg (fun z => Ending.returned (.tuple #[.int .i64 z, .int .i64 3])) (Base.end3 m) | exact congrArg (fun z => Ending.returned (.tuple #[.int .i64 z, .int .i64 4])) (Base.end4 m) | exact congrArg (fun z => Ending.returned (.tuple #[.int .i64 z, .int .i64 5])) (Base.end5 m) | exact congrArg (fun z => Ending.returned (.tuple #[.int .i64 z, .int .i64 6])) (Base.end6 m) | exact congrArg (fun z => Ending.returned (.tuple #[.int .i64 z, .int .i64 7])) (Base.end7 m)
      · intro x v kl yd yp w1 cnt1 hkey hlk hv hat hrg1 hlt hg1 hs1 hen
        have hb1 : Below w.heap.size w w1 := hb.grown hg1 hb.size (fun j hj => by cases hj; exact Nat.le_refl _)
        obtain ⟨x', ex, rfl, _⟩ := Maps.keyOf_int_inv Tryd.underlying3 hkey
        obtain rfl : x = x' := by simpa using ex
        have hk := Base.tab_has (hhas _ hlk)
        clear hs1 hg1 hb hkey ex
        have hst : ∀ ad c x0 x1 x2, w.cell? (Addr.add ad 0) = some (.int .i64 x0) → w.cell? (ad.add 1) = some (.int .i64 x1) → w.cell? (ad.add 2) = some (.int .i64 x2) → v = .slice (some ad) 3 c →
            w1.cell? (ad.add 0) = some (.int .i64 x0) ∧ w1.cell? (ad.add 1) = some (.int .i64 x1) ∧ w1.cell? (ad.add 2) = some (.int .i64 x2) := fun ad c x0 x1 x2 a b d _ => ⟨Base.cell_below a hb1 rfl, Base.cell_below b hb1 rfl, Base.cell_below d hb1 rfl⟩
        rcases hk with hk | hk | hk
        · obtain rfl : x = 1 := by simpa using hk
          obtain ⟨ad, c, rfl, c0, c1, c2⟩ := hR v (yd, yp) 3 5 7 hv (hat .nil).symm
          obtain ⟨d0, d1, d2⟩ := hst ad c 3 5 7 c0 c1 c2 rfl
          replace d0 : w1.cell? ad = some (.int .i64 3) := d0
          replace d1 : w1.cell? ⟨ad.block, ad.off + 1, none⟩ = some (.int .i64 5) := d1
          replace d2 : w1.cell? ⟨ad.block, ad.off + 2, none⟩ = some (.int .i64 7) := d2
          have pc := fun W => impl_place.calls (m.1 : Nat) 1 (Base.pl (m.1 : Nat) 6) W (place_at_ _ _ _ (by omega) rfl)
          have p0 := fun W => impl_place.calls (m.1 : Nat) 3 (Base.pl (m.1 : Nat) 4) W (place_at_ _ _ _ (by omega) rfl)
          have p1 := fun W => impl_place.calls (m.1 : Nat) 5 (Base.pl (m.1 : Nat) 2) W (place_at_ _ _ _ (by omega) rfl)
          have p2 := fun W => impl_place.calls (m.1 : Nat) 7 (Base.pl (m.1 : Nat) 0) W (place_at_ _ _ _ (by omega) rfl)
          have hle := hrg.left_eq
          clear c0 c1 c2 hst hk hat hv hR hcell hown hrg0 hw hrg
          go_wp2_with (first | (go_at_call 31; refine (pc _).mono ?_; rintro e w' ⟨rfl, ⟨q, rfl⟩⟩) | go_in)
          refine wp_loop_rounds 4 ?_
          rw [rounds_succ]; go_wp2_with (first | (go_at_call 31; refine (p0 _).mono ?_; rintro e w' ⟨rfl, ⟨q, rfl⟩⟩) | go_in)
          rw [rounds_succ]; go_wp2_with (first | (go_at_call 31; refine (p1 _).mono ?_; rintro e w' ⟨rfl, ⟨q, rfl⟩⟩) | go_in)
          rw [rounds_succ]; go_wp2_with (first | (go_at_call 31; refine (p2 _).mono ?_; rintro e w' ⟨rfl, ⟨q, rfl⟩⟩) | go_in)
          rw [rounds_succ]
          go_wp2
          refine ⟨⟨fun z => left z && !z.sameKey (.int .i64 1), cnt1, ?_, Base.ranges_drewN hrg1 _, fun z hz => hhas z (by simp only [Bool.and_eq_true] at hz; exact hz.1), pw_below_drewN hb1 _⟩, ?_⟩
          · rw [hlk] at hoe
            subst hoe
            refine congrArg (Value.int .i64) ((Base.stepD1 m _ _).trans ?_)
            simp [Lit.sameKey]
          · rw [(Base.ranges_drewN hrg1 _).left_eq, hle]
            exact hlt
        · obtain rfl : x = 2 := by simpa using hk
          obtain ⟨ad, c, rfl, c0, c1, c2⟩ := hR v (yd, yp) 3 6 7 hv (hat .nil).symm
          obtain ⟨d0, d1, d2⟩ := hst ad c 3 6 7 c0 c1 c2 rfl
          replace d0 : w1.cell? ad = some (.int .i64 3) := d0
          replace d1 : w1.cell? ⟨ad.block, ad.off + 1, none⟩ = some (.int .i64 6) := d1
          replace d2 : w1.cell? ⟨ad.block, ad.off + 2, none⟩ = some (.int .i64 7) := d2
          have pc := fun W => impl_place.calls (m.1 : Nat) 2 (Base.pl (m.1 : Nat) 5) W (place_at_ _ _ _ (by omega) rfl)
          have p0 := fun W => impl_place.calls (m.1 : Nat) 3 (Base.pl (m.1 : Nat) 4) W (place_at_ _ _ _ (by omega) rfl)
          have p1 := fun W => impl_place.calls (m.1 : Nat) 6 (Base.pl (m.1 : Nat) 1) W (place_at_ _ _ _ (by omega) rfl)
          have p2 := fun W => impl_place.calls (m.1 : Nat) 7 (Base.pl (m.1 : Nat) 0) W (place_at_ _ _ _ (by omega) rfl)
          have hle := hrg.left_eq
          clear c0 c1 c2 hst hk hat hv hR hcell hown hrg0 hw hrg
          go_wp2_with (first | (go_at_call 31; refine (pc _).mono ?_; rintro e w' ⟨rfl, ⟨q, rfl⟩⟩) | go_in)
          refine wp_loop_rounds 4 ?_
          rw [rounds_succ]; go_wp2_with (first | (go_at_call 31; refine (p0 _).mono ?_; rintro e w' ⟨rfl, ⟨q, rfl⟩⟩) | go_in)
          rw [rounds_succ]; go_wp2_with (first | (go_at_call 31; refine (p1 _).mono ?_; rintro e w' ⟨rfl, ⟨q, rfl⟩⟩) | go_in)
          rw [rounds_succ]; go_wp2_with (first | (go_at_call 31; refine (p2 _).mono ?_; rintro e w' ⟨rfl, ⟨q, rfl⟩⟩) | go_in)
          rw [rounds_succ]
          go_wp2
          refine ⟨⟨fun z => left z && !z.sameKey (.int .i64 2), cnt1, ?_, Base.ranges_drewN hrg1 _, fun z hz => hhas z (by simp only [Bool.and_eq_true] at hz; exact hz.1), pw_below_drewN hb1 _⟩, ?_⟩
          · rw [hlk] at hoe
            subst hoe
            refine congrArg (Value.int .i64) ((Base.stepD2 m _ _).trans ?_)
            simp [Lit.sameKey]
          · rw [(Base.ranges_drewN hrg1 _).left_eq, hle]
            exact hlt
        · obtain rfl : x = 4 := by simpa using hk
          obtain ⟨ad, c, rfl, c0, c1, c2⟩ := hR v (yd, yp) 5 6 7 hv (hat .nil).symm
          obtain ⟨d0, d1, d2⟩ := hst ad c 5 6 7 c0 c1 c2 rfl
          replace d0 : w1.cell? ad = some (.int .i64 5) := d0
          replace d1 : w1.cell? ⟨ad.block, ad.off + 1, none⟩ = some (.int .i64 6) := d1
          replace d2 : w1.cell? ⟨ad.block, ad.off + 2, none⟩ = some (.int .i64 7) := d2
          have pc := fun W => impl_place.calls (m.1 : Nat) 4 (Base.pl (m.1 : Nat) 3) W (place_at_ _ _ _ (by omega) rfl)
          have p0 := fun W => impl_place.calls (m.1 : Nat) 5 (Base.pl (m.1 : Nat) 2) W (place_at_ _ _ _ (by omega) rfl)
          have p1 := fun W => impl_place.calls (m.1 : Nat) 6 (Base.pl (m.1 : Nat) 1) W (place_at_ _ _ _ (by omega) rfl)
          have p2 := fun W => impl_place.calls (m.1 : Nat) 7 (Base.pl (m.1 : Nat) 0) W (place_at_ _ _ _ (by omega) rfl)
          have hle := hrg.left_eq
          clear c0 c1 c2 hst hk hat hv hR hcell hown hrg0 hw hrg
          go_wp2_with (first | (go_at_call 31; refine (pc _).mono ?_; rintro e w' ⟨rfl, ⟨q, rfl⟩⟩) | go_in)
          refine wp_loop_rounds 4 ?_
          rw [rounds_succ]; go_wp2_with (first | (go_at_call 31; refine (p0 _).mono ?_; rintro e w' ⟨rfl, ⟨q, rfl⟩⟩) | go_in)
          rw [rounds_succ]; go_wp2_with (first | (go_at_call 31; refine (p1 _).mono ?_; rintro e w' ⟨rfl, ⟨q, rfl⟩⟩) | go_in)
          rw [rounds_succ]; go_wp2_with (first | (go_at_call 31; refine (p2 _).mono ?_; rintro e w' ⟨rfl, ⟨q, rfl⟩⟩) | go_in)
          rw [rounds_succ]
          go_wp2
          refine ⟨⟨fun z => left z && !z.sameKey (.int .i64 4), cnt1, ?_, Base.ranges_drewN hrg1 _, fun z hz => hhas z (by simp only [Bool.and_eq_true] at hz; exact hz.1), pw_below_drewN hb1 _⟩, ?_⟩
          · rw [hlk] at hoe
            subst hoe
            refine congrArg (Value.int .i64) ((Base.stepD4 m _ _).trans ?_)
            simp [Lit.sameKey]
          · rw [(Base.ranges_drewN hrg1 _).left_eq, hle]
            exact hlt
  · rw [decide_eq_false ha] at hw
    have e : Base.decN a0 = (-1, -1) := if_neg ha
    rw [e]
    go_enter Tryd.func14, Tryd.ntmps14
    go_wp2_with (first | (go_at_call 30; refine (hw _).mono ?_; rintro e w' ⟨rfl, ⟨q, rfl⟩⟩))
    go_ret2
    exact ⟨rfl, pw_below_drewN (Below.refl _ _) _⟩
def impl_DecodeNibble.f (a0 : Int) : Option (Int × Int) := some (Base.decN a0)
theorem impl_DecodeNibble.calls (a0 : Int) (r1 : Int) (r2 : Int) (w : World) (hG : Base.RulesAt w) (h : impl_DecodeNibble.f a0 = some (r1, r2)) :
    Calls Tryd.prog 14 #[.int .i64 a0] w fun e w' => e = .returned (.tuple #[.int .i64 r1, .int .i64 r2]) ∧ Below w.heap.size w w' := by
  have h2 := impl_DecodeNibble.go a0 w hG
  unfold impl_DecodeNibble.f at h
  rw [Option.some.inj h] at h2
  exact h2

end Go.Proofs.YtpifogfnafogaaaDoor.PAll
