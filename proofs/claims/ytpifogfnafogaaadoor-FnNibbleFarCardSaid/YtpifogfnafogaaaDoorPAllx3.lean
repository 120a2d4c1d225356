-- WRITTEN BY A PROGRAM OF THIS SESSION (wip/tools/printall.py) over the kit's print: what each Go function answers, and that the machine's call does so. Lean checks it.
import Derived.Test.YtpifogfnafogaaaDoorPAllx0
import Derived.Test.YtpifogfnafogaaaDoorPAllx1
import Derived.Test.YtpifogfnafogaaaDoorPAllx2
namespace Go.Proofs.YtpifogfnafogaaaDoor.PAll
open Go.RowKit Go.Proofs.YtpifogfnafogaaaDoorW.PrintWords Go.Proofs.YtpifogfnafogaaaDoorW.PrintLast Go.Proofs.YtpifogfnafogaaaDoorW.PrintMore
attribute [local go_sem] max2_int min2_int max_two min_two max_three min_three max_four min_four   -- for this text's walks alone
set_option linter.unusedVariables false
set_option linter.unusedSimpArgs false

-- IMPORT HNib
/-! ### impl.DecodeNibble, by hand: a range over the map of rules (HNib) -/
attribute [local go_sem] Base.idx0 Base.idx1 Base.idx2 Base.idx3
theorem w64__ {x : Int} (h1 : -9223372036854775808 ≤ x) (h2 : x ≤ 9223372036854775807) : wrap64 x = x := by
  unfold wrap64
  omega
theorem place_at_ (o i : Int) (k : Nat) (hi : 1 ≤ i ∧ i ≤ 7) (hk : 7 - i = k) : impl_place.f o i = some (Base.pl o k) := by
  have e : wrap64 (7 - i) = k := by
    rw [← hk]
    exact w64__ (by omega) (by omega)
  unfold impl_place.f
  rw [e, if_pos (by omega)]
  have : min (k : Int).toNat 64 = k := by omega
  show some (Go.bits .and .i64 (o / 2 ^ min (k : Int).toNat 64) 1) = _
  rw [this]
  rfl
set_option maxHeartbeats 8000000 in
set_option maxRecDepth 100000 in
theorem impl_DecodeNibble.go (a0 : Int) (w : World) (hG : Base.RulesAt w) : Calls Tryd.prog 14 #[.int .i64 a0] w fun e w' => e = .returned (.tuple #[.int .i64 (Base.decN a0).1, .int .i64 (Base.decN a0).2]) ∧ Below w.heap.size w w' := by
  have hw := fun W => impl_within.calls a0 0 127 (decide (0 ≤ a0 ∧ a0 ≤ 127)) W (by unfold impl_within.f; by_cases h : 0 ≤ a0 <;> simp [h])
  obtain ⟨H, R, bm, n_, hcell, hown, hR⟩ := hG
  by_cases ha : 0 ≤ a0 ∧ a0 ≤ 127
  · rw [decide_eq_true ha] at hw
    obtain ⟨m, rfl⟩ := Base.fin7_of ha
    go_enter Tryd.func14, Tryd.ntmps14
    go_wp2_with (first
      | (go_at_call 30; refine (hw _).mono ?_; rintro e w' ⟨rfl, ⟨q, rfl⟩⟩)
      | (at_range; refine wpList_range_own _ rfl _ 37 rfl 3 38 Base.law Tryd.underlying37 _ bm n_ _ rfl (Base.ownsMap_drewN hown _) ?_; intro w0 hrg0 hg0 hs0)
      | go_in)
    (try go_frame)
    have hb0 : Below w.heap.size w w0 := (pw_below_drewN (Below.refl _ _) q).grown hg0 (by simp) (fun j hj => by cases hj)
    have hrg0 : w0.ranges Tryd.prog 3 R bm w.heap.size n_ (Base.tabD (H := H)) (Maps.has (Base.tabD (H := H))) (Maps.size (Base.tabD (H := H))) := by simpa using hrg0
    (try simp only [World.heap_drewN])
    clear hg0 hs0
    go_loopw [4] (fun o wr => ∃ (left : Lit → Bool) (cnt : Nat), o = .int .i64 (Base.decW (m.1 : Nat) (left (.int .i64 1)) (left (.int .i64 2)) (left (.int .i64 4))) ∧ wr.ranges Tryd.prog 3 R bm w.heap.size n_ (Base.tabD (H := H)) left cnt ∧ (∀ z, left z = true → Maps.has (Base.tabD (H := H)) z = true) ∧ Below w.heap.size w wr)
      (fun _ wr => wr.rangeLeft bm w.heap.size)
    case atStart => exact ⟨_, _, by rw [(Base.has_key (H := H)).1, (Base.has_key (H := H)).2.1, (Base.has_key (H := H)).2.2]; rfl, hrg0, fun _ h => h, hb0⟩
    case round =>
      obtain ⟨left, cnt, ho, hrg, hhas, hb⟩ := hrel
      obtain ⟨o, hoe⟩ : ∃ o, Base.decW (m.1 : Nat) (left (.int .i64 1)) (left (.int .i64 2)) (left (.int .i64 4)) = o := ⟨_, rfl⟩
      rw [hoe] at ho
      subst ho
      go_wp2_with (first
        | (at_next; refine wpList_next_ranges _ rfl _ rfl 3 Base.law R (Value.int .i64) (fun v => v) (fun key kl hk => by obtain ⟨x, hx, _⟩ := Maps.keyOf_int_inv Tryd.underlying3 hk; exact ⟨x, hx⟩) (fun v _ _ => ⟨v, rfl⟩) bm w.heap.size n_ _ _ _ rfl hrg ?_ ?_)
        | go_in)
      · intro _ hl0
        rw [hl0, hl0, hl0] at hoe
        have hr := Base.dec_range m
        rw [hoe] at hr
        have p3 := fun (o : Int) W => impl_place.calls o 3 (Base.pl o 4) W (place_at_ _ _ _ (by omega) rfl)
        have p5 := fun (o : Int) W => impl_place.calls o 5 (Base.pl o 2) W (place_at_ _ _ _ (by omega) rfl)
        have p6 := fun (o : Int) W => impl_place.calls o 6 (Base.pl o 1) W (place_at_ _ _ _ (by omega) rfl)
        have p7 := fun (o : Int) W => impl_place.calls o 7 (Base.pl o 0) W (place_at_ _ _ _ (by omega) rfl)
        have hd : Base.decN (m.1 : Nat) = (Base.fourN (Base.decO (m.1 : Nat) o), o) := by rw [Base.decN, if_pos ha, hoe]
        clear hw hR hcell hown hrg0 hrg hl0 hhas
        rcases hr with rfl | rfl | rfl | rfl | rfl | rfl | rfl | rfl
        all_goals
          go_wp2
          refine wp_loop_rounds 5 ?_
          rw [rounds_succ]; go_wp2_with (first | (go_at_call 31; refine (p3 _ _).mono ?_; rintro e w' ⟨rfl, ⟨q, rfl⟩⟩) | go_in)
          rw [rounds_succ]; go_wp2_with (first | (go_at_call 31; refine (p5 _ _).mono ?_; rintro e w' ⟨rfl, ⟨q, rfl⟩⟩) | go_in)
          rw [rounds_succ]; go_wp2_with (first | (go_at_call 31; refine (p6 _ _).mono ?_; rintro e w' ⟨rfl, ⟨q, rfl⟩⟩) | go_in)
          rw [rounds_succ]; go_wp2_with (first | (go_at_call 31; refine (p7 _ _).mono ?_; rintro e w' ⟨rfl, ⟨q, rfl⟩⟩) | go_in)
          rw [rounds_succ]
          go_wp2
          go_ret2
          rw [hd]
          refine ⟨?_, pw_below_drewN hb _⟩
          first | exact congrArg (fun z => Ending.returned (.tuple #[.int .i64 z, .int .i64 0])) (Base.end0 m) | exact congrArg (fun z => Ending.returned (.tuple #[.int .i64 z, .int .i64 1])) (Base.end1 m) | exact congrArg (fun z => Ending.returned (.tuple #[.int .i64 z, .int .i64 2])) (Base.end2 m) | exact congrArg (fun z => Ending.returned (.tuple #[.int .i64 z, .int .i64 3])) (Base.end3 m) | exact congrArg (fun z => Ending.returned (.tuple #[.int .i64 z, .int .i64 4])) (Base.end4 m) | exact congrArg (fun z => Ending.returned (.tuple #[.int .i64 z, .int .i64 5])) (Base.end5 m) | exact congrArg (fun z => Ending.returned (.tuple #[.int .i64 z, .int .i64 6])) (Base.end6 m) | exact congrArg (fun z => Ending.returned (.tuple #[.int .i64 z, .int .i64 7])) (Base.end7 m)
      · intro x v kl yd yp w1 cnt1 hkey hlk hv hat hrg1 hlt hg1 hs1 hen
        have hb1 : Below w.heap.size w w1 := hb.grown hg1 hb.size (fun j hj => by cases hj; exact Nat.le_refl _)
        obtain ⟨x', ex, rfl, _⟩ := Maps.keyOf_int_inv Tryd.underlying3 hkey
        obtain rfl : x = x' := by simpa using ex
        have hk := Base.tab_has (hhas _ hlk)
        clear hs1 hg1 hb hkey ex
        have hst : ∀ ad c x0 x1 x2, w.cell? (Addr.add ad 0) = some (.int .i64 x0) → w.cell? (ad.add 1) = some (.int .i64 x1) → w.cell? (ad.add 2) = some (.int .i64 x2) → v = .slice (some ad) 3 c →
            w1.cell? (ad.add 0) = some (.int .i64 x0) ∧ w1.cell? (ad.add 1) = some (.int .i64 x1) ∧ w1.cell? (ad.add 2) = some (.int .i64 x2) := fun ad c x0 x1 x2 a b d _ => ⟨Base.cell_below a hb1 rfl, Base.cell_below b hb1 rfl, Base.cell_below d hb1 rfl⟩
        rcases hk with hk | hk | hk
        · obtain rfl : x = 1 := by simpa using hk
          obtain ⟨ad, c, rfl, c0, c1, c2⟩ := hR v (yd, yp) 3 5 7 hv (hat .nil).symm
          obtain ⟨d0, d1, d2⟩ := hst ad c 3 5 7 c0 c1 c2 rfl
          replace d0 : w1.cell? ad = some (.int .i64 3) := d0
          replace d1 : w1.cell? ⟨ad.block, ad.off + 1, none⟩ = some (.int .i64 5) := d1
          replace d2 : w1.cell? ⟨ad.block, ad.off + 2, none⟩ = some (.int .i64 7) := d2
          have pc := fun W => impl_place.calls (m.1 : Nat) 1 (Base.pl (m.1 : Nat) 6) W (place_at_ _ _ _ (by omega) rfl)
          have p0 := fun W => impl_place.calls (m.1 : Nat) 3 (Base.pl (m.1 : Nat) 4) W (place_at_ _ _ _ (by omega) rfl)
          have p1 := fun W => impl_place.calls (m.1 : Nat) 5 (Base.pl (m.1 : Nat) 2) W (place_at_ _ _ _ (by omega) rfl)
          have p2 := fun W => impl_place.calls (m.1 : Nat) 7 (Base.pl (m.1 : Nat) 0) W (place_at_ _ _ _ (by omega) rfl)
          have hle := hrg.left_eq
          clear c0 c1 c2 hst hk hat hv hR hcell hown hrg0 hw hrg
          go_wp2_with (first | (go_at_call 31; refine (pc _).mono ?_; rintro e w' ⟨rfl, ⟨q, rfl⟩⟩) | go_in)
          refine wp_loop_rounds 4 ?_
          rw [rounds_succ]; go_wp2_with (first | (go_at_call 31; refine (p0 _).mono ?_; rintro e w' ⟨rfl, ⟨q, rfl⟩⟩) | go_in)
          rw [rounds_succ]; go_wp2_with (first | (go_at_call 31; refine (p1 _).mono ?_; rintro e w' ⟨rfl, ⟨q, rfl⟩⟩) | go_in)
          rw [rounds_succ]; go_wp2_with (first | (go_at_call 31; refine (p2 _).mono ?_; rintro e w' ⟨rfl, ⟨q, rfl⟩⟩) | go_in)
          rw [rounds_succ]
          go_wp2
          refine ⟨⟨fun z => left z && !z.sameKey (.int .i64 1), cnt1, ?_, Base.ranges_drewN hrg1 _, fun z hz => hhas z (by simp only [Bool.and_eq_true] at hz; exact hz.1), pw_below_drewN hb1 _⟩, ?_⟩
          · rw [hlk] at hoe
            subst hoe
            refine congrArg (Value.int .i64) ((Base.stepD1 m _ _).trans ?_)
            simp [Lit.sameKey]
          · rw [(Base.ranges_drewN hrg1 _).left_eq, hle]
            exact hlt
        · obtain rfl : x = 2 := by simpa using hk
          obtain ⟨ad, c, rfl, c0, c1, c2⟩ := hR v (yd, yp) 3 6 7 hv (hat .nil).symm
          obtain ⟨d0, d1, d2⟩ := hst ad c 3 6 7 c0 c1 c2 rfl
          replace d0 : w1.cell? ad = some (.int .i64 3) := d0
          replace d1 : w1.cell? ⟨ad.block, ad.off + 1, none⟩ = some (.int .i64 6) := d1
          replace d2 : w1.cell? ⟨ad.block, ad.off + 2, none⟩ = some (.int .i64 7) := d2
          have pc := fun W => impl_place.calls (m.1 : Nat) 2 (Base.pl (m.1 : Nat) 5) W (place_at_ _ _ _ (by omega) rfl)
          have p0 := fun W => impl_place.calls (m.1 : Nat) 3 (Base.pl (m.1 : Nat) 4) W (place_at_ _ _ _ (by omega) rfl)
          have p1 := fun W => impl_place.calls (m.1 : Nat) 6 (Base.pl (m.1 : Nat) 1) W (place_at_ _ _ _ (by omega) rfl)
          have p2 := fun W => impl_place.calls (m.1 : Nat) 7 (Base.pl (m.1 : Nat) 0) W (place_at_ _ _ _ (by omega) rfl)
          have hle := hrg.left_eq
          clear c0 c1 c2 hst hk hat hv hR hcell hown hrg0 hw hrg
          go_wp2_with (first | (go_at_call 31; refine (pc _).mono ?_; rintro e w' ⟨rfl, ⟨q, rfl⟩⟩) | go_in)
          refine wp_loop_rounds 4 ?_
          rw [rounds_succ]; go_wp2_with (first | (go_at_call 31; refine (p0 _).mono ?_; rintro e w' ⟨rfl, ⟨q, rfl⟩⟩) | go_in)
          rw [rounds_succ]; go_wp2_with (first | (go_at_call 31; refine (p1 _).mono ?_; rintro e w' ⟨rfl, ⟨q, rfl⟩⟩) | go_in)
          rw [rounds_succ]; go_wp2_with (first | (go_at_call 31; refine (p2 _).mono ?_; rintro e w' ⟨rfl, ⟨q, rfl⟩⟩) | go_in)
          rw [rounds_succ]
          go_wp2
          refine ⟨⟨fun z => left z && !z.sameKey (.int .i64 2), cnt1, ?_, Base.ranges_drewN hrg1 _, fun z hz => hhas z (by simp only [Bool.and_eq_true] at hz; exact hz.1), pw_below_drewN hb1 _⟩, ?_⟩
          · rw [hlk] at hoe
            subst hoe
            refine congrArg (Value.int .i64) ((Base.stepD2 m _ _).trans ?_)
            simp [Lit.sameKey]
          · rw [(Base.ranges_drewN hrg1 _).left_eq, hle]
            exact hlt
        · obtain rfl : x = 4 := by simpa using hk
          obtain ⟨ad, c, rfl, c0, c1, c2⟩ := hR v (yd, yp) 5 6 7 hv (hat .nil).symm
          obtain ⟨d0, d1, d2⟩ := hst ad c 5 6 7 c0 c1 c2 rfl
          replace d0 : w1.cell? ad = some (.int .i64 5) := d0
          replace d1 : w1.cell? ⟨ad.block, ad.off + 1, none⟩ = some (.int .i64 6) := d1
          replace d2 : w1.cell? ⟨ad.block, ad.off + 2, none⟩ = some (.int .i64 7) := d2
          have pc := fun W => impl_place.calls (m.1 : Nat) 4 (Base.pl (m.1 : Nat) 3) W (place_at_ _ _ _ (by omega) rfl)
          have p0 := fun W => impl_place.calls (m.1 : Nat) 5 (Base.pl (m.1 : Nat) 2) W (place_at_ _ _ _ (by omega) rfl)
          have p1 := fun W => impl_place.calls (m.1 : Nat) 6 (Base.pl (m.1 : Nat) 1) W (place_at_ _ _ _ (by omega) rfl)
          have p2 := fun W => impl_place.calls (m.1 : Nat) 7 (Base.pl (m.1 : Nat) 0) W (place_at_ _ _ _ (by omega) rfl)
          have hle := hrg.left_eq
          clear c0 c1 c2 hst hk hat hv hR hcell hown hrg0 hw hrg
          go_wp2_with (first | (go_at_call 31; refine (pc _).mono ?_; rintro e w' ⟨rfl, ⟨q, rfl⟩⟩) | go_in)
          refine wp_loop_rounds 4 ?_
          rw [rounds_succ]; go_wp2_with (first | (go_at_call 31; refine (p0 _).mono ?_; rintro e w' ⟨rfl, ⟨q, rfl⟩⟩) | go_in)
          rw [rounds_succ]; go_wp2_with (first | (go_at_call 31; refine (p1 _).mono ?_; rintro e w' ⟨rfl, ⟨q, rfl⟩⟩) | go_in)
          rw [rounds_succ]; go_wp2_with (first | (go_at_call 31; refine (p2 _).mono ?_; rintro e w' ⟨rfl, ⟨q, rfl⟩⟩) | go_in)
          rw [rounds_succ]
          go_wp2
          refine ⟨⟨fun z => left z && !z.sameKey (.int .i64 4), cnt1, ?_, Base.ranges_drewN hrg1 _, fun z hz => hhas z (by simp only [Bool.and_eq_true] at hz; exact hz.1), pw_below_drewN hb1 _⟩, ?_⟩
          · rw [hlk] at hoe
            subst hoe
            refine congrArg (Value.int .i64) ((Base.stepD4 m _ _).trans ?_)
            simp [Lit.sameKey]
          · rw [(Base.ranges_drewN hrg1 _).left_eq, hle]
            exact hlt
  · rw [decide_eq_false ha] at hw
    have e : Base.decN a0 = (-1, -1) := if_neg ha
    rw [e]
    go_enter Tryd.func14, Tryd.ntmps14
    go_wp2_with (first | (go_at_call 30; refine (hw _).mono ?_; rintro e w' ⟨rfl, ⟨q, rfl⟩⟩))
    go_ret2
    exact ⟨rfl, pw_below_drewN (Below.refl _ _) _⟩
def impl_DecodeNibble.f (a0 : Int) : Option (Int × Int) := some (Base.decN a0)
theorem impl_DecodeNibble.calls (a0 : Int) (r1 : Int) (r2 : Int) (w : World) (hG : Base.RulesAt w) (h : impl_DecodeNibble.f a0 = some (r1, r2)) :
    Calls Tryd.prog 14 #[.int .i64 a0] w fun e w' => e = .returned (.tuple #[.int .i64 r1, .int .i64 r2]) ∧ Below w.heap.size w w' := by
  have h2 := impl_DecodeNibble.go a0 w hG
  unfold impl_DecodeNibble.f at h
  rw [Option.some.inj h] at h2
  exact h2

/-! ### laws_FnExactDecodeNibble: function 4 -/
def laws_FnExactDecodeNibble.f (a0 : Int) : Option (Bool) := (spec_DecodeNibble.f a0).bind fun bt125 => ((impl_DecodeNibble.f a0).bind fun bt127 => (if bt127.1 = bt125.1 then (if bt127.2 = bt125.2 then (some true) else (some false)) else (some false)))
set_option maxHeartbeats 8000000 in
set_option maxRecDepth 100000 in
theorem laws_FnExactDecodeNibble.calls (a0 : Int) (r : Bool) (w : World) (hG : Base.RulesAt w) (h : laws_FnExactDecodeNibble.f a0 = some r) :
    Calls Tryd.prog 4 #[.int .i64 a0] w fun e w' => e = .returned (.bool r) ∧ Below w.heap.size w w' := by
  have HB := Aside0.mk (Below.refl w.heap.size w)
  have H : ((spec_DecodeNibble.f a0).bind fun bt125 => ((impl_DecodeNibble.f a0).bind fun bt127 => (if bt127.1 = bt125.1 then (if bt127.2 = bt125.2 then (some true) else (some false)) else (some false)))) = some r := h
  clear h
  replace H := Option.bind_eq_some_iff.mp H
  obtain ⟨⟨t125, t126⟩, A20, H⟩ := H
  replace H : ((impl_DecodeNibble.f a0).bind fun bt127 => (if bt127.1 = t125 then (if bt127.2 = t126 then (some true) else (some false)) else (some false))) = some r := H
  have A2 := Aside0.mk A20
  clear A20
  replace H := Option.bind_eq_some_iff.mp H
  obtain ⟨⟨t127, t128⟩, A30, H⟩ := H
  replace H : (if t127 = t125 then (if t128 = t126 then (some true) else (some false)) else (some false)) = some r := H
  have A3 := Aside0.mk A30
  clear A30
  by_cases c4 : t127 = t125
  · rw [if_pos c4] at H
    have c4b0 : (t127 == t125) = true := beq_iff_eq.mpr c4
    have c4b1 : (t127 != t125) = false := bne_eq_false_iff_eq.mpr c4
    clear c4
    by_cases c5 : t128 = t126
    · rw [if_pos c5] at H
      have c5b0 : (t128 == t126) = true := beq_iff_eq.mpr c5
      have c5b1 : (t128 != t126) = false := bne_eq_false_iff_eq.mpr c5
      clear c5
      obtain rfl := Option.some.inj H
      go_enter Tryd.func4, Tryd.ntmps4
      go_wp2_with (first | ((with_reducible refine gate_callee (f := 13) rfl ?_); refine goesL_ (some 9) rfl rfl Tryd.func13 (by kernel_rfl) rfl #[.int .i64 a0] rfl (by (try simp only [List.map_toArray, List.map_cons, List.map_nil]); first | done | rfl | (simp only [List.length_drop, List.length_take]; rfl)) ?_; (with_reducible refine (spec_DecodeNibble.calls a0 t125 t126 _ A2.out).mono ?_); rintro e w' ⟨rfl, ⟨nd, rfl⟩⟩; refine ⟨_, rfl, ?_⟩) | ((with_reducible refine gate_callee (f := 14) rfl ?_); refine goesL_ (some 14) rfl rfl Tryd.func14 (by kernel_rfl) rfl #[.int .i64 a0] rfl (by (try simp only [List.map_toArray, List.map_cons, List.map_nil]); first | done | rfl | (simp only [List.length_drop, List.length_take]; rfl)) ?_; (with_reducible refine (impl_DecodeNibble.calls a0 t127 t128 _ ?sideG A3.out).mono ?_); (case sideG => exact hG.below (by repeat (first | (with_reducible first | exact HB.out | apply below_alloc | apply pw_below_drewN | apply below_drew1) | exact HB.out)) rfl); rintro e w6 ⟨rfl, hb⟩; refine ⟨_, rfl, ?_⟩; have n0_ := Aside0.mk (below_step (by repeat (first | (with_reducible first | exact HB.out | apply below_alloc | apply pw_below_drewN | apply below_drew1) | exact HB.out)) hb); clear HB; have HB := n0_; clear n0_; (try clear hb); (try clear hb2); (try clear hk); (try clear hi)))
      go_ret
      exact ⟨by first | rfl | (simp [errW_none, errW_some] <;> rfl) | (simp [*, errW_none, errW_some] <;> rfl), by repeat (first | (with_reducible first | exact HB.out | apply below_alloc | apply pw_below_drewN | apply below_drew1) | exact HB.out)⟩
    · rw [if_neg c5] at H
      have c5b0 : (t128 == t126) = false := beq_eq_false_iff_ne.mpr c5
      have c5b1 : (t128 != t126) = true := bne_iff_ne.mpr c5
      obtain rfl := Option.some.inj H
      go_enter Tryd.func4, Tryd.ntmps4
      go_wp2_with (first | ((with_reducible refine gate_callee (f := 13) rfl ?_); refine goesL_ (some 9) rfl rfl Tryd.func13 (by kernel_rfl) rfl #[.int .i64 a0] rfl (by (try simp only [List.map_toArray, List.map_cons, List.map_nil]); first | done | rfl | (simp only [List.length_drop, List.length_take]; rfl)) ?_; (with_reducible refine (spec_DecodeNibble.calls a0 t125 t126 _ A2.out).mono ?_); rintro e w' ⟨rfl, ⟨nd, rfl⟩⟩; refine ⟨_, rfl, ?_⟩) | ((with_reducible refine gate_callee (f := 14) rfl ?_); refine goesL_ (some 14) rfl rfl Tryd.func14 (by kernel_rfl) rfl #[.int .i64 a0] rfl (by (try simp only [List.map_toArray, List.map_cons, List.map_nil]); first | done | rfl | (simp only [List.length_drop, List.length_take]; rfl)) ?_; (with_reducible refine (impl_DecodeNibble.calls a0 t127 t128 _ ?sideG A3.out).mono ?_); (case sideG => exact hG.below (by repeat (first | (with_reducible first | exact HB.out | apply below_alloc | apply pw_below_drewN | apply below_drew1) | exact HB.out)) rfl); rintro e w7 ⟨rfl, hb⟩; refine ⟨_, rfl, ?_⟩; have n0_ := Aside0.mk (below_step (by repeat (first | (with_reducible first | exact HB.out | apply below_alloc | apply pw_below_drewN | apply below_drew1) | exact HB.out)) hb); clear HB; have HB := n0_; clear n0_; (try clear hb); (try clear hb2); (try clear hk); (try clear hi)))
      go_ret
      exact ⟨by first | rfl | (simp [errW_none, errW_some] <;> rfl) | (simp [*, errW_none, errW_some] <;> rfl), by repeat (first | (with_reducible first | exact HB.out | apply below_alloc | apply pw_below_drewN | apply below_drew1) | exact HB.out)⟩
  · rw [if_neg c4] at H
    have c4b0 : (t127 == t125) = false := beq_eq_false_iff_ne.mpr c4
    have c4b1 : (t127 != t125) = true := bne_iff_ne.mpr c4
    obtain rfl := Option.some.inj H
    go_enter Tryd.func4, Tryd.ntmps4
    go_wp2_with (first | ((with_reducible refine gate_callee (f := 13) rfl ?_); refine goesL_ (some 9) rfl rfl Tryd.func13 (by kernel_rfl) rfl #[.int .i64 a0] rfl (by (try simp only [List.map_toArray, List.map_cons, List.map_nil]); first | done | rfl | (simp only [List.length_drop, List.length_take]; rfl)) ?_; (with_reducible refine (spec_DecodeNibble.calls a0 t125 t126 _ A2.out).mono ?_); rintro e w' ⟨rfl, ⟨nd, rfl⟩⟩; refine ⟨_, rfl, ?_⟩) | ((with_reducible refine gate_callee (f := 14) rfl ?_); refine goesL_ (some 14) rfl rfl Tryd.func14 (by kernel_rfl) rfl #[.int .i64 a0] rfl (by (try simp only [List.map_toArray, List.map_cons, List.map_nil]); first | done | rfl | (simp only [List.length_drop, List.length_take]; rfl)) ?_; (with_reducible refine (impl_DecodeNibble.calls a0 t127 t128 _ ?sideG A3.out).mono ?_); (case sideG => exact hG.below (by repeat (first | (with_reducible first | exact HB.out | apply below_alloc | apply pw_below_drewN | apply below_drew1) | exact HB.out)) rfl); rintro e w8 ⟨rfl, hb⟩; refine ⟨_, rfl, ?_⟩; have n0_ := Aside0.mk (below_step (by repeat (first | (with_reducible first | exact HB.out | apply below_alloc | apply pw_below_drewN | apply below_drew1) | exact HB.out)) hb); clear HB; have HB := n0_; clear n0_; (try clear hb); (try clear hb2); (try clear hk); (try clear hi)))
    go_ret
    exact ⟨by first | rfl | (simp [errW_none, errW_some] <;> rfl) | (simp [*, errW_none, errW_some] <;> rfl), by repeat (first | (with_reducible first | exact HB.out | apply below_alloc | apply pw_below_drewN | apply below_drew1) | exact HB.out)⟩

/-- THE ONE PURE STATEMENT of laws_FnExactDecodeNibble: yours. -/
def laws_FnExactDecodeNibble.Pure : Prop := ∀ (a0 : Int), (Lit.int .i64 a0).wf = true → laws_FnExactDecodeNibble.f a0 = some true
theorem laws_FnExactDecodeNibble.walk (P : laws_FnExactDecodeNibble.Pure) (a0 : Int) (w : World) (w0 : (Lit.int .i64 a0).wf = true) (hG : Base.RulesAt w) :
    Calls Tryd.prog 4 #[.int .i64 a0] w fun e w' => e = .returned (.bool true) ∧ Below w.heap.size w w' := by
  have h := P a0 w0
  refine (laws_FnExactDecodeNibble.calls a0 true w hG h).mono ?_
  rintro e w' ⟨rfl, hd⟩
  exact ⟨rfl, hd⟩

end Go.Proofs.YtpifogfnafogaaaDoor.PAll
