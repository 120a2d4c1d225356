-- WRITTEN BY A PROGRAM OF THIS SESSION (wip/tools/printall.py) over the kit's print: what each Go function answers, and that the machine's call does so. Lean checks it.
import Derived.Test.YtpifogfnafogaaaDoorPAllx0
namespace Go.Proofs.YtpifogfnafogaaaDoor.PAll
open Go.RowKit Go.Proofs.YtpifogfnafogaaaDoorW.PrintWords Go.Proofs.YtpifogfnafogaaaDoorW.PrintLast Go.Proofs.YtpifogfnafogaaaDoorW.PrintMore
attribute [local go_sem] max2_int min2_int max_two min_two max_three min_three max_four min_four   -- for this text's walks alone
set_option linter.unusedVariables false
set_option linter.unusedSimpArgs false

/-! ### impl_within: function 30 -/
def impl_within.f (a0 : Int) (a1 : Int) (a2 : Int) : Option (Bool) := if a1 ≤ a0 then (some (decide (a0 ≤ a2))) else (some false)
set_option maxHeartbeats 8000000 in
set_option maxRecDepth 100000 in
theorem impl_within.calls (a0 : Int) (a1 : Int) (a2 : Int) (r : Bool) (w : World) (h : impl_within.f a0 a1 a2 = some r) :
    Calls Tryd.prog 30 #[.int .i64 a0, .int .i64 a1, .int .i64 a2] w fun e w' => e = .returned (.bool r) ∧ Drawn0 w w' := by
  have H : (if a1 ≤ a0 then (some (decide (a0 ≤ a2))) else (some false)) = some r := h
  clear h
  by_cases c4 : a1 ≤ a0
  · rw [if_pos c4] at H
    have c4b0 : decide (a1 ≤ a0) = true := decide_eq_true c4
    clear c4
    obtain rfl := Option.some.inj H
    go_enter Tryd.func30, Tryd.ntmps30
    go_wp2
    go_ret
    exact ⟨by first | rfl | (simp; done) | (simp [*]; done), by repeat (first | exact Drawn0.refl _ | apply Drawn0.step)⟩
  · rw [if_neg c4] at H
    have c4b0 : decide (a1 ≤ a0) = false := decide_eq_false c4
    clear c4
    obtain rfl := Option.some.inj H
    go_enter Tryd.func30, Tryd.ntmps30
    go_wp2
    go_ret
    exact ⟨by first | rfl | (simp; done) | (simp [*]; done), by repeat (first | exact Drawn0.refl _ | apply Drawn0.step)⟩

/-! ### impl_place: function 31 -/
def impl_place.f (a0 : Int) (a1 : Int) : Option (Int) := if 0 ≤ (wrap64 (7 - a1)) then (some (Go.bits .and .i64 (shr .i64 a0 (wrap64 (7 - a1))) 1)) else (none)
set_option maxHeartbeats 8000000 in
set_option maxRecDepth 100000 in
theorem impl_place.calls (a0 : Int) (a1 : Int) (r : Int) (w : World) (h : impl_place.f a0 a1 = some r) :
    Calls Tryd.prog 31 #[.int .i64 a0, .int .i64 a1] w fun e w' => e = .returned (.int .i64 r) ∧ Drawn0 w w' := by
  have H : (if 0 ≤ (wrap64 (7 - a1)) then (some (Go.bits .and .i64 (shr .i64 a0 (wrap64 (7 - a1))) 1)) else (none)) = some r := h
  clear h
  obtain ⟨ji3, hji3⟩ : ∃ j_ : Int, (wrap64 (7 - a1)) = j_ := ⟨_, rfl⟩
  replace H : (if 0 ≤ (ji3) then (some (Go.bits .and .i64 (shr .i64 a0 (ji3)) 1)) else (none)) = some r := by first | (rw [hji3] at H; exact H) | (simp only [hji3] at H ⊢; exact H)
  have hji3w : (IntKind.i64.wrap (7 - a1)) = ji3 := (i64_w _).trans hji3
  by_cases c4 : 0 ≤ (ji3)
  · rw [if_pos c4] at H
    have c4b0 := eq_true c4
    have c4b1 : decide (0 ≤ (ji3)) = true := decide_eq_true c4
    clear c4
    obtain ⟨ji5, hji5⟩ : ∃ j_ : Int, (shr .i64 a0 (ji3)) = j_ := ⟨_, rfl⟩
    replace H : (some (Go.bits .and .i64 (ji5) 1)) = some r := by first | (rw [hji5] at H; exact H) | (simp only [hji5] at H ⊢; exact H)
    have hji5_ : (a0 / 2 ^ min (ji3).toNat 64) = ji5 := hji5
    have hji5z : (ji3) ≤ 64 → (a0 / 2 ^ (ji3).toNat) = ji5 := shr_small hji5
    obtain rfl := Option.some.inj H
    go_enter Tryd.func31, Tryd.ntmps31
    go_wp2
    go_ret
    exact ⟨by first | rfl | (simp; done) | (simp only [← hji3, ← hji5] <;> (first | rfl | simp)) | (simp [*]; done), by repeat (first | exact Drawn0.refl _ | apply Drawn0.step)⟩
  · rw [if_neg c4] at H
    exact absurd H (by simp)

-- IMPORT HNib
/-! ### impl.DecodeNibble, by hand: a range over the map of rules (HNib) -/
attribute [local go_sem] Base.idx0 Base.idx1 Base.idx2 Base.idx3
theorem w64__ {x : Int} (h1 : -9223372036854775808 ≤ x) (h2 : x ≤ 9223372036854775807) : wrap64 x = x := by
  unfold wrap64
  omega
theorem place_at_ (o i : Int) (k : Nat) (hi : 1 ≤ i ∧ i ≤ 7) (hk : 7 - i = k) : impl_place.f o i = some (Base.pl o k) := by
  have e : wrap64 (7 - i) = k := by
    rw [← hk]
    exact w64__ (by omega) (by omega)
  unfold impl_place.f
  rw [e, if_pos (by omega)]
  have : min (k : Int).toNat 64 = k := by omega
  show some (Go.bits .and .i64 (o / 2 ^ min (k : Int).toNat 64) 1) = _
  rw [this]
  rfl
set_option maxHeartbeats 8000000 in
set_option maxRecDepth 100000 in
theorem impl_DecodeNibble.go (a0 : Int) (w : World) (hG : Base.RulesAt w) : Calls Tryd.prog 14 #[.int .i64 a0] w fun e w' => e = .returned (.tuple #[.int .i64 (Base.decN a0).1, .int .i64 (Base.decN a0).2]) ∧ Below w.heap.size w w' := by
  have hw := fun W => impl_within.calls a0 0 127 (decide (0 ≤ a0 ∧ a0 ≤ 127)) W (by unfold impl_within.f; by_cases h : 0 ≤ a0 <;> simp [h])
  obtain ⟨H, R, bm, n_, hcell, hown, hR⟩ := hG
  by_cases ha : 0 ≤ a0 ∧ a0 ≤ 127
  · rw [decide_eq_true ha] at hw
    obtain ⟨m, rfl⟩ := Base.fin7_of ha
    go_enter Tryd.func14, Tryd.ntmps14
    go_wp2_with (first
      | (go_at_call 30; refine (hw _).mono ?_; rintro e w' ⟨rfl, ⟨q, rfl⟩⟩)
      | (at_range; refine wpList_range_own _ rfl _ 37 rfl 3 38 Base.law Tryd.underlying37 _ bm n_ _ rfl (Base.ownsMap_drewN hown _) ?_; intro w0 hrg0 hg0 hs0)
      | go_in)
    (try go_frame)
    have hb0 : Below w.heap.size w w0 := (pw_below_drewN (Below.refl _ _) q).grown hg0 (by simp) (fun j hj => by cases hj)
    have hrg0 : w0.ranges Tryd.prog 3 R bm w.heap.size n_ (Base.tabD (H := H)) (Maps.has (Base.tabD (H := H))) (Maps.size (Base.tabD (H := H))) := by simpa using hrg0
    (try simp only [World.heap_drewN])
    clear hg0 hs0
    go_loopw [4] (fun o wr => ∃ (left : Lit → Bool) (cnt : Nat), o = .int .i64 (Base.decW (m.1 : Nat) (left (.int .i64 1)) (left (.int .i64 2)) (left (.int .i64 4))) ∧ wr.ranges Tryd.prog 3 R bm w.heap.size n_ (Base.tabD (H := H)) left cnt ∧ (∀ z, left z = true → Maps.has (Base.tabD (H := H)) z = true) ∧ Below w.heap.size w wr)
      (fun _ wr => wr.rangeLeft bm w.heap.size)
    case atStart => exact ⟨_, _, by rw [(Base.has_key (H := H)).1, (Base.has_key (H := H)).2.1, (Base.has_key (H := H)).2.2]; rfl, hrg0, fun _ h => h, hb0⟩
    case round =>
      obtain ⟨left, cnt, ho, hrg, hhas, hb⟩ := hrel
      obtain ⟨o, hoe⟩ : ∃ o, Base.decW (m.1 : Nat) (left (.int .i64 1)) (left (.int .i64 2)) (left (.int .i64 4)) = o := ⟨_, rfl⟩
      rw [hoe] at ho
      subst ho
      go_wp2_with (first
        | (at_next; refine wpList_next_ranges _ rfl _ rfl 3 Base.law R (Value.int .i64) (fun v => v) (fun key kl hk => by obtain ⟨x, hx, _⟩ := Maps.keyOf_int_inv Tryd.underlying3 hk; exact ⟨x, hx⟩) (fun v _ _ => ⟨v, rfl⟩) bm w.heap.size n_ _ _ _ rfl hrg ?_ ?_)
        | go_in)
      · intro _ hl0
        rw [hl0, hl0, hl0] at hoe
        have hr := Base.dec_range m
        rw [hoe] at hr
        have p3 := fun (o : Int) W => impl_place.calls o 3 (Base.pl o 4) W (place_at_ _ _ _ (by omega) rfl)
        have p5 := fun (o : Int) W => impl_place.calls o 5 (Base.pl o 2) W (place_at_ _ _ _ (by omega) rfl)
        have p6 := fun (o : Int) W => impl_place.calls o 6 (Base.pl o 1) W (place_at_ _ _ _ (by omega) rfl)
        have p7 := fun (o : Int) W => impl_place.calls o 7 (Base.pl o 0) W (place_at_ _ _ _ (by omega) rfl)
        have hd : Base.decN (m.1 : Nat) = (Base.fourN (Base.decO (m.1 : Nat) o), o) := by rw [Base.decN, if_pos ha, hoe]
        clear hw hR hcell hown hrg0 hrg hl0 hhas
        rcases hr with rfl | rfl | rfl | rfl | rfl | rfl | rfl | rfl
        all_goals
          go_wp2
          refine wp_loop_rounds 5 ?_
          rw [rounds_succ]; go_wp2_with (first | (go_at_call 31; refine (p3 _ _).mono ?_; rintro e w' ⟨rfl, ⟨q, rfl⟩⟩) | go_in)
          rw [rounds_succ]; go_wp2_with (first | (go_at_call 31; refine (p5 _ _).mono ?_; rintro e w' ⟨rfl, ⟨q, rfl⟩⟩) | go_in)
          rw [rounds_succ]; go_wp2_with (first | (go_at_call 31; refine (p6 _ _).mono ?_; rintro e w' ⟨rfl, ⟨q, rfl⟩⟩) | go_in)
          rw [rounds_succ]; go_wp2_with (first | (go_at_call 31; refine (p7 _ _).mono ?_; rintro e w' ⟨rfl, ⟨q, rfl⟩⟩) | go_in)
          rw [rounds_succ]
          go_wp2
          go_ret2
          rw [hd]
          refine ⟨?_, pw_below_drewN hb _⟩
          first | exact congrArg (fun z => Ending.returned (.tuple #[.int .i64 z, .int .i64 0])) (Base.end0 m) | exact congrArg (fun z => Ending.returned (.tuple #[.int .i64 z, .int .i64 1])) (Base.end1 m) | exact congrArg (fun z => Ending.returned (.tuple #[.int .i64 z, .int .i64 2])) (Base.end2 m) | exact congrArg (fun z => Ending.returned (.tuple #[.int .i64 z, .int .i64 3])) (Base.end3 m) | exact congrArg (fun z => Ending.returned (.tuple #[.int .i64 z, .int .i64 4])) (Base.end4 m) | exact congrArg (fun z => Ending.returned (.tuple #[.int .i64 z, .int .i64 5])) (Base.end5 m) | exact congrArg (fun z => Ending.returned (.tuple #[.int .i64 z, .int .i64 6])) (Base.end6 m) | exact congrArg (fun z => Ending.returned (.tuple #[.int .i64 z, .int .i64 7])) (Base.end7 m)
      · intro x v kl yd yp w1 cnt1 hkey hlk hv hat hrg1 hlt hg1 hs1 hen
        have hb1 : Below w.heap.size w w1 := hb.grown hg1 hb.size (fun j hj => by cases hj; exact Nat.le_refl _)
        obtain ⟨x', ex, rfl, _⟩ := Maps.keyOf_int_inv Tryd.underlying3 hkey
        obtain rfl : x = x' := by simpa using ex
        have hk := Base.tab_has (hhas _ hlk)
        clear hs1 hg1 hb hkey ex
        have hst : ∀ ad c x0 x1 x2, w.cell? (Addr.add ad 0) = some (.int .i64 x0) → w.cell? (ad.add 1) = some (.int .i64 x1) → w.cell? (ad.add 2) = some (.int .i64 x2) → v = .slice (some ad) 3 c →
            w1.cell? (ad.add 0) = some (.int .i64 x0) ∧ w1.cell? (ad.add 1) = some (.int .i64 x1) ∧ w1.cell? (ad.add 2) = some (.int .i64 x2) := fun ad c x0 x1 x2 a b d _ => ⟨Base.cell_below a hb1 rfl, Base.cell_below b hb1 rfl, Base.cell_below d hb1 rfl⟩
        rcases hk with hk | hk | hk
        · obtain rfl : x = 1 := by simpa using hk
          obtain ⟨ad, c, rfl, c0, c1, c2⟩ := hR v (yd, yp) 3 5 7 hv (hat .nil).symm
          obtain ⟨d0, d1, d2⟩ := hst ad c 3 5 7 c0 c1 c2 rfl
          replace d0 : w1.cell? ad = some (.int .i64 3) := d0
          replace d1 : w1.cell? ⟨ad.block, ad.off + 1, none⟩ = some (.int .i64 5) := d1
          replace d2 : w1.cell? ⟨ad.block, ad.off + 2, none⟩ = some (.int .i64 7) := d2
          have pc := fun W => impl_place.calls (m.1 : Nat) 1 (Base.pl (m.1 : Nat) 6) W (place_at_ _ _ _ (by omega) rfl)
          have p0 := fun W => impl_place.calls (m.1 : Nat) 3 (Base.pl (m.1 : Nat) 4) W (place_at_ _ _ _ (by omega) rfl)
          have p1 := fun W => impl_place.calls (m.1 : Nat) 5 (Base.pl (m.1 : Nat) 2) W (place_at_ _ _ _ (by omega) rfl)
          have p2 := fun W => impl_place.calls (m.1 : Nat) 7 (Base.pl (m.1 : Nat) 0) W (place_at_ _ _ _ (by omega) rfl)
          have hle := hrg.left_eq
          clear c0 c1 c2 hst hk hat hv hR hcell hown hrg0 hw hrg
          go_wp2_with (first | (go_at_call 31; refine (pc _).mono ?_; rintro e w' ⟨rfl, ⟨q, rfl⟩⟩) | go_in)
          refine wp_loop_rounds 4 ?_
          rw [rounds_succ]; go_wp2_with (first | (go_at_call 31; refine (p0 _).mono ?_; rintro e w' ⟨rfl, ⟨q, rfl⟩⟩) | go_in)
          rw [rounds_succ]; go_wp2_with (first | (go_at_call 31; refine (p1 _).mono ?_; rintro e w' ⟨rfl, ⟨q, rfl⟩⟩) | go_in)
          rw [rounds_succ]; go_wp2_with (first | (go_at_call 31; refine (p2 _).mono ?_; rintro e w' ⟨rfl, ⟨q, rfl⟩⟩) | go_in)
          rw [rounds_succ]
          go_wp2
          refine ⟨⟨fun z => left z && !z.sameKey (.int .i64 1), cnt1, ?_, Base.ranges_drewN hrg1 _, fun z hz => hhas z (by simp only [Bool.and_eq_true] at hz; exact hz.1), pw_below_drewN hb1 _⟩, ?_⟩
          · rw [hlk] at hoe
            subst hoe
            refine congrArg (Value.int .i64) ((Base.stepD1 m _ _).trans ?_)
            simp [Lit.sameKey]
          · rw [(Base.ranges_drewN hrg1 _).left_eq, hle]
            exact hlt
        · obtain rfl : x = 2 := by simpa using hk
          obtain ⟨ad, c, rfl, c0, c1, c2⟩ := hR v (yd, yp) 3 6 7 hv (hat .nil).symm
          obtain ⟨d0, d1, d2⟩ := hst ad c 3 6 7 c0 c1 c2 rfl
          replace d0 : w1.cell? ad = some (.int .i64 3) := d0
          replace d1 : w1.cell? ⟨ad.block, ad.off + 1, none⟩ = some (.int .i64 6) := d1
          replace d2 : w1.cell? ⟨ad.block, ad.off + 2, none⟩ = some (.int .i64 7) := d2
          have pc := fun W => impl_place.calls (m.1 : Nat) 2 (Base.pl (m.1 : Nat) 5) W (place_at_ _ _ _ (by omega) rfl)
          have p0 := fun W => impl_place.calls (m.1 : Nat) 3 (Base.pl (m.1 : Nat) 4) W (place_at_ _ _ _ (by omega) rfl)
          have p1 := fun W => impl_place.calls (m.1 : Nat) 6 (Base.pl (m.1 : Nat) 1) W (place_at_ _ _ _ (by omega) rfl)
          have p2 := fun W => impl_place.calls (m.1 : Nat) 7 (Base.pl (m.1 : Nat) 0) W (place_at_ _ _ _ (by omega) rfl)
          have hle := hrg.left_eq
          clear c0 c1 c2 hst hk hat hv hR hcell hown hrg0 hw hrg
          go_wp2_with (first | (go_at_call 31; refine (pc _).mono ?_; rintro e w' ⟨rfl, ⟨q, rfl⟩⟩) | go_in)
          refine wp_loop_rounds 4 ?_
          rw [rounds_succ]; go_wp2_with (first | (go_at_call 31; refine (p0 _).mono ?_; rintro e w' ⟨rfl, ⟨q, rfl⟩⟩) | go_in)
          rw [rounds_succ]; go_wp2_with (first | (go_at_call 31; refine (p1 _).mono ?_; rintro e w' ⟨rfl, ⟨q, rfl⟩⟩) | go_in)
          rw [rounds_succ]; go_wp2_with (first | (go_at_call 31; refine (p2 _).mono ?_; rintro e w' ⟨rfl, ⟨q, rfl⟩⟩) | go_in)
          rw [rounds_succ]
          go_wp2
          refine ⟨⟨fun z => left z && !z.sameKey (.int .i64 2), cnt1, ?_, Base.ranges_drewN hrg1 _, fun z hz => hhas z (by simp only [Bool.and_eq_true] at hz; exact hz.1), pw_below_drewN hb1 _⟩, ?_⟩
          · rw [hlk] at hoe
            subst hoe
            refine congrArg (Value.int .i64) ((Base.stepD2 m _ _).trans ?_)
            simp [Lit.sameKey]
          · rw [(Base.ranges_drewN hrg1 _).left_eq, hle]
            exact hlt
        · obtain rfl : x = 4 := by simpa using hk
          obtain ⟨ad, c, rfl, c0, c1, c2⟩ := hR v (yd, yp) 5 6 7 hv (hat .nil).symm
          obtain ⟨d0, d1, d2⟩ := hst ad c 5 6 7 c0 c1 c2 rfl
          replace d0 : w1.cell? ad = some (.int .i64 5) := d0
          replace d1 : w1.cell? ⟨ad.block, ad.off + 1, none⟩ = some (.int .i64 6) := d1
          replace d2 : w1.cell? ⟨ad.block, ad.off + 2, none⟩ = some (.int .i64 7) := d2
          have pc := fun W => impl_place.calls (m.1 : Nat) 4 (Base.pl (m.1 : Nat) 3) W (place_at_ _ _ _ (by omega) rfl)
          have p0 := fun W => impl_place.calls (m.1 : Nat) 5 (Base.pl (m.1 : Nat) 2) W (place_at_ _ _ _ (by omega) rfl)
          have p1 := fun W => impl_place.calls (m.1 : Nat) 6 (Base.pl (m.1 : Nat) 1) W (place_at_ _ _ _ (by omega) rfl)
          have p2 := fun W => impl_place.calls (m.1 : Nat) 7 (Base.pl (m.1 : Nat) 0) W (place_at_ _ _ _ (by omega) rfl)
          have hle := hrg.left_eq
          clear c0 c1 c2 hst hk hat hv hR hcell hown hrg0 hw hrg
          go_wp2_with (first | (go_at_call 31; refine (pc _).mono ?_; rintro e w' ⟨rfl, ⟨q, rfl⟩⟩) | go_in)
          refine wp_loop_rounds 4 ?_
          rw [rounds_succ]; go_wp2_with (first | (go_at_call 31; refine (p0 _).mono ?_; rintro e w' ⟨rfl, ⟨q, rfl⟩⟩) | go_in)
          rw [rounds_succ]; go_wp2_with (first | (go_at_call 31; refine (p1 _).mono ?_; rintro e w' ⟨rfl, ⟨q, rfl⟩⟩) | go_in)
          rw [rounds_succ]; go_wp2_with (first | (go_at_call 31; refine (p2 _).mono ?_; rintro e w' ⟨rfl, ⟨q, rfl⟩⟩) | go_in)
          rw [rounds_succ]
          go_wp2
          refine ⟨⟨fun z => left z && !z.sameKey (.int .i64 4), cnt1, ?_, Base.ranges_drewN hrg1 _, fun z hz => hhas z (by simp only [Bool.and_eq_true] at hz; exact hz.1), pw_below_drewN hb1 _⟩, ?_⟩
          · rw [hlk] at hoe
            subst hoe
            refine congrArg (Value.int .i64) ((Base.stepD4 m _ _).trans ?_)
            simp [Lit.sameKey]
          · rw [(Base.ranges_drewN hrg1 _).left_eq, hle]
            exact hlt
  · rw [decide_eq_false ha] at hw
    have e : Base.decN a0 = (-1, -1) := if_neg ha
    rw [e]
    go_enter Tryd.func14, Tryd.ntmps14
    go_wp2_with (first | (go_at_call 30; refine (hw _).mono ?_; rintro e w' ⟨rfl, ⟨q, rfl⟩⟩))
    go_ret2
    exact ⟨rfl, pw_below_drewN (Below.refl _ _) _⟩
def impl_DecodeNibble.f (a0 : Int) : Option (Int × Int) := some (Base.decN a0)
theorem impl_DecodeNibble.calls (a0 : Int) (r1 : Int) (r2 : Int) (w : World) (hG : Base.RulesAt w) (h : impl_DecodeNibble.f a0 = some (r1, r2)) :
    Calls Tryd.prog 14 #[.int .i64 a0] w fun e w' => e = .returned (.tuple #[.int .i64 r1, .int .i64 r2]) ∧ Below w.heap.size w w' := by
  have h2 := impl_DecodeNibble.go a0 w hG
  unfold impl_DecodeNibble.f at h
  rw [Option.some.inj h] at h2
  exact h2

/-! ### slices.IndexFunc over bytes, by hand: for whatever function value that answers a bool and lays nothing -/
set_option maxHeartbeats 2000000 in
set_option maxRecDepth 100000 in
theorem slices_IndexFunc_byte_byte.any (p : Int → Bool) (g : Nat) (lb : Array Value) (eg : ∀ args w, (callFunc g args).run Tryd.prog w = .ok (.enter g args) w) (A0 : Option Addr) (c0 : Nat) (l0 : List Int) (w : World)
    (hr0 : Kd.C (Kd.int .u8) w A0 l0.length l0) (hp : Base.FnBool Tryd.prog g lb (Value.int .u8) p w) :
    Calls Tryd.prog 43 #[.slice A0 l0.length c0, .func (.func g) #[] lb] w fun e w' => e = .returned (.int .i64 (Base.idx p l0)) ∧ ∃ q, w' = w.drewN q := by
  have hpAt : ∀ (x : Int) (q : Nat), Calls Tryd.prog g (#[.int .u8 x] ++ lb) (w.drewN q) fun e w' => e = .returned (.bool (p x)) ∧ ∃ q', w' = (w.drewN q).drewN q' := fun x q => hp _ x (pw_below_drewN (Below.refl _ w) q)
  clear hp
  have hbig := Kd.C_max hr0
  have HR0 := Aside0.mk hr0
  clear hr0
  obtain ⟨n, hn⟩ : ∃ n, n = l0.length := ⟨_, rfl⟩
  have HN := Aside0.mk hn
  rw [← hn] at hbig ⊢
  clear hn
  go_enter Tryd.func43, Tryd.ntmps43
  go_wp2
  go_loopg [5, 8] n (fun gg _ s8 wr => ∃ kk q : Nat, kk ≤ n ∧ n - kk ≤ gg ∧ s8 = .int .i64 kk ∧ wr = w.drewN q ∧ Aside0 (∀ j, j < kk → p (rd l0 (j : Int)) = false))
  case atStart => exact ⟨0, 0, Nat.zero_le _, by omega, rfl, rfl, ⟨fun j hj => absurd hj (Nat.not_lt_zero _)⟩⟩
  case round =>
    obtain ⟨kk, q, hkk, hg, rfl, rfl, A⟩ := hrel
    by_cases hlt : kk < n
    · have hltz : (kk : Int) < (n : Int) := by omega
      obtain ⟨ad, rfl, hcell⟩ := Kd.at_int HR0.out (kk : Int) (by omega) (by have := HN.out; omega)
      rw [Int.toNat_natCast] at hcell
      generalize hy : rd l0 (kk : Int) = y at hcell
      have B := Aside0.mk hy
      clear hy
      have hcall := hpAt y
      cases hq : p y with
      | true =>
        rw [hq] at hcall
        go_wp2_with (go_at_fn g; refine (hcall _).mono ?_; rintro e w' ⟨rfl, q', rfl⟩)
        go_ret
        refine ⟨?_, _, rfl⟩
        rw [Base.idx_hit p l0 kk (by have := HN.out; omega) (by rw [B.out]; exact hq) A.out]
        rfl
      | false =>
        rw [hq] at hcall
        go_wp2_with (go_at_fn g; refine (hcall _).mono ?_; rintro e w' ⟨rfl, q', rfl⟩)
        go_roundg (n - (kk + 1))
        case measure => omega
        case rel =>
          refine ⟨kk + 1, _, by omega, by omega, by go_num, rfl, ⟨fun j hj => ?_⟩⟩
          by_cases e : j = kk
          · subst e
            rw [B.out]; exact hq
          · exact A.out j (by omega)
    · have hltz : ¬ (kk : Int) < (n : Int) := by omega
      obtain rfl : kk = n := by omega
      go_wp2
      go_ret
      refine ⟨?_, q, rfl⟩
      rw [Base.idx_miss p l0 (fun j hj => A.out j (by have := HN.out; omega))]
      rfl

/-! ### slices.ContainsFunc over bytes -/
set_option maxHeartbeats 2000000 in
theorem slices_ContainsFunc_byte_byte.any (p : Int → Bool) (g : Nat) (lb : Array Value) (eg : ∀ args w, (callFunc g args).run Tryd.prog w = .ok (.enter g args) w) (A0 : Option Addr) (c0 : Nat) (l0 : List Int) (w : World)
    (hr0 : Kd.C (Kd.int .u8) w A0 l0.length l0) (hp : Base.FnBool Tryd.prog g lb (Value.int .u8) p w) :
    Calls Tryd.prog 37 #[.slice A0 l0.length c0, .func (.func g) #[] lb] w fun e w' => e = .returned (.bool (l0.any p)) ∧ ∃ q, w' = w.drewN q := by
  rw [← Base.idx_any p l0]
  have hcon := slices_IndexFunc_byte_byte.any p g lb eg A0 c0 l0 w hr0 hp
  clear hp hr0 eg
  generalize Base.idx p l0 = ix at hcon ⊢
  go_enter Tryd.func37, Tryd.ntmps37
  go_wp2_with (go_at_call 43; refine hcon.mono ?_; rintro e w' ⟨rfl, q, rfl⟩)
  go_ret
  exact ⟨rfl, q, rfl⟩

-- NOT PRINTED: function 38 (impl_DecodeBytes_1)

-- NOT PRINTED: function 44 (slices_Chunk_byte_byte_1)

-- NOT PRINTED: function 39 (slices_Chunk_byte_byte)

-- IMPORT HDec
/-! ### impl.DecodeBytes, by hand: a range over slices.Chunk (HChunkB, HDec), with two calls a round -/
def impl_DecodeBytes.f (l0 : List Int) : Option (List Int × Int) := if l0.all (fun x => decide (0 ≤ x)) = true then some (Base.decB l0) else none
theorem impl_DecodeBytes.calls (A0 : Option Addr) (c0 : Nat) (l0 : List Int) (r1 : List Int) (r2 : Int) (w : World) (hr0 : Kd.C (Kd.int .u8) w A0 l0.length l0) (hc0 : l0.length ≤ c0) (hG : Base.RulesAt w) (h : impl_DecodeBytes.f l0 = some (r1, r2)) :
    Calls Tryd.prog 24 #[.slice A0 l0.length c0] w fun e w' => ∃ v0_ : Value, e = .returned (.tuple #[v0_, .int .i64 r2]) ∧ Kd.R (Kd.int .u8) 5 w' w.heap.size (fun _ => True) v0_ r1 ∧ Below w.heap.size w w' := by
  unfold impl_DecodeBytes.f at h
  by_cases hp : l0.all (fun x => decide (0 ≤ x)) = true
  · rw [if_pos hp] at h
    have hpos : ∀ x ∈ l0, 0 ≤ x := fun x hx => of_decide_eq_true (List.all_eq_true.1 hp x hx)
    have h2 := Base.decB_calls A0 c0 l0 hc0 w hr0 hpos hG (fun x W hW => impl_DecodeNibble.go x W hW) (slices_ContainsFunc_byte_byte.any Base.lowB 38 #[] (enters_of Tryd.func38 (by kernel_rfl) rfl) A0 c0 l0 w hr0 (Base.low_fn w))
    rw [Option.some.inj h] at h2
    exact h2
  · rw [if_neg hp] at h
    cases h

end Go.Proofs.YtpifogfnafogaaaDoor.PAll
