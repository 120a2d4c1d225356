-- WRITTEN BY A PROGRAM OF THIS SESSION (wip/tools/printall.py) over the kit's print: what each Go function answers, and that the machine's call does so. Lean checks it.
import Derived.Test.YtpifogfnafogaaaDoorPAllx0
namespace Go.Proofs.YtpifogfnafogaaaDoor.PAll
open Go.RowKit Go.Proofs.YtpifogfnafogaaaDoorW.PrintWords Go.Proofs.YtpifogfnafogaaaDoorW.PrintLast Go.Proofs.YtpifogfnafogaaaDoorW.PrintMore
attribute [local go_sem] max2_int min2_int max_two min_two max_three min_three max_four min_four   -- for this text's walks alone
set_option linter.unusedVariables false
set_option linter.unusedSimpArgs false

/-! ### impl_within: function 30 -/
def impl_within.f (a0 : Int) (a1 : Int) (a2 : Int) : Option (Bool) := if a1 ≤ a0 then (some (decide (a0 ≤ a2))) else (some false)
set_option maxHeartbeats 8000000 in
set_option maxRecDepth 100000 in
theorem impl_within.calls (a0 : Int) (a1 : Int) (a2 : Int) (r : Bool) (w : World) (h : impl_within.f a0 a1 a2 = some r) :
    Calls Tryd.prog 30 #[.int .i64 a0, .int .i64 a1, .int .i64 a2] w fun e w' => e = .returned (.bool r) ∧ Drawn0 w w' := by
  have H : (if a1 ≤ a0 then (some (decide (a0 ≤ a2))) else (some false)) = some r := h
  clear h
  by_cases c4 : a1 ≤ a0
  · rw [if_pos c4] at H
    have c4b0 : decide (a1 ≤ a0) = true := decide_eq_true c4
    clear c4
    obtain rfl := Option.some.inj H
    go_enter Tryd.func30, Tryd.ntmps30
    go_wp2
    go_ret
    exact ⟨by first | rfl | (simp; done) | (simp [*]; done), by repeat (first | exact Drawn0.refl _ | apply Drawn0.step)⟩
  · rw [if_neg c4] at H
    have c4b0 : decide (a1 ≤ a0) = false := decide_eq_false c4
    clear c4
    obtain rfl := Option.some.inj H
    go_enter Tryd.func30, Tryd.ntmps30
    go_wp2
    go_ret
    exact ⟨by first | rfl | (simp; done) | (simp [*]; done), by repeat (first | exact Drawn0.refl _ | apply Drawn0.step)⟩

/-! ### impl_place: function 31 -/
def impl_place.f (a0 : Int) (a1 : Int) : Option (Int) := if 0 ≤ (wrap64 (7 - a1)) then (some (Go.bits .and .i64 (shr .i64 a0 (wrap64 (7 - a1))) 1)) else (none)
set_option maxHeartbeats 8000000 in
set_option maxRecDepth 100000 in
theorem impl_place.calls (a0 : Int) (a1 : Int) (r : Int) (w : World) (h : impl_place.f a0 a1 = some r) :
    Calls Tryd.prog 31 #[.int .i64 a0, .int .i64 a1] w fun e w' => e = .returned (.int .i64 r) ∧ Drawn0 w w' := by
  have H : (if 0 ≤ (wrap64 (7 - a1)) then (some (Go.bits .and .i64 (shr .i64 a0 (wrap64 (7 - a1))) 1)) else (none)) = some r := h
  clear h
  obtain ⟨ji3, hji3⟩ : ∃ j_ : Int, (wrap64 (7 - a1)) = j_ := ⟨_, rfl⟩
  replace H : (if 0 ≤ (ji3) then (some (Go.bits .and .i64 (shr .i64 a0 (ji3)) 1)) else (none)) = some r := by first | (rw [hji3] at H; exact H) | (simp only [hji3] at H ⊢; exact H)
  have hji3w : (IntKind.i64.wrap (7 - a1)) = ji3 := (i64_w _).trans hji3
  by_cases c4 : 0 ≤ (ji3)
  · rw [if_pos c4] at H
    have c4b0 := eq_true c4
    have c4b1 : decide (0 ≤ (ji3)) = true := decide_eq_true c4
    clear c4
    obtain ⟨ji5, hji5⟩ : ∃ j_ : Int, (shr .i64 a0 (ji3)) = j_ := ⟨_, rfl⟩
    replace H : (some (Go.bits .and .i64 (ji5) 1)) = some r := by first | (rw [hji5] at H; exact H) | (simp only [hji5] at H ⊢; exact H)
    have hji5_ : (a0 / 2 ^ min (ji3).toNat 64) = ji5 := hji5
    have hji5z : (ji3) ≤ 64 → (a0 / 2 ^ (ji3).toNat) = ji5 := shr_small hji5
    obtain rfl := Option.some.inj H
    go_enter Tryd.func31, Tryd.ntmps31
    go_wp2
    go_ret
    exact ⟨by first | rfl | (simp; done) | (simp only [← hji3, ← hji5] <;> (first | rfl | simp)) | (simp [*]; done), by repeat (first | exact Drawn0.refl _ | apply Drawn0.step)⟩
  · rw [if_neg c4] at H
    exact absurd H (by simp)

-- IMPORT HNib
/-! ### impl.EncodeNibble, by hand: a range over the map of rules (HNib) -/
attribute [local go_sem] Base.idx0 Base.idx1 Base.idx2 Base.idx3
theorem w64_ {x : Int} (h1 : -9223372036854775808 ≤ x) (h2 : x ≤ 9223372036854775807) : wrap64 x = x := by
  unfold wrap64
  omega
theorem place_at (o i : Int) (k : Nat) (hi : 1 ≤ i ∧ i ≤ 7) (hk : 7 - i = k) : impl_place.f o i = some (Base.pl o k) := by
  have e : wrap64 (7 - i) = k := by
    rw [← hk]
    exact w64_ (by omega) (by omega)
  unfold impl_place.f
  rw [e, if_pos (by omega)]
  have : min (k : Int).toNat 64 = k := by omega
  show some (Go.bits .and .i64 (o / 2 ^ min (k : Int).toNat 64) 1) = _
  rw [this]
  rfl
set_option maxHeartbeats 8000000 in
set_option maxRecDepth 100000 in
theorem impl_EncodeNibble.go (a0 : Int) (w : World) (hG : Base.RulesAt w) : Calls Tryd.prog 12 #[.int .i64 a0] w fun e w' => e = .returned (.int .i64 (Base.encN a0)) ∧ Below w.heap.size w w' := by
  have hw := fun W => impl_within.calls a0 0 15 (decide (0 ≤ a0 ∧ a0 ≤ 15)) W (by unfold impl_within.f; by_cases h : 0 ≤ a0 <;> simp [h])
  obtain ⟨H, R, bm, n_, hcell, hown, hR⟩ := hG
  by_cases ha : 0 ≤ a0 ∧ a0 ≤ 15
  · rw [decide_eq_true ha] at hw
    go_enter Tryd.func12, Tryd.ntmps12
    go_wp2_with (first | (go_at_call 30; refine (hw _).mono ?_; rintro e w' ⟨rfl, ⟨q, rfl⟩⟩))
    refine wp_loop_rounds 5 ?_
    iterate 4 (rw [rounds_succ]; go_wp2)
    rw [rounds_succ]
    go_wp2_with (first
      | (at_range; refine wpList_range_own _ rfl _ 37 rfl 3 38 Base.law Tryd.underlying37 _ bm n_ _ rfl (Base.ownsMap_drewN hown _) ?_; intro w0 hrg0 hg0 hs0)
      | go_in)
    obtain ⟨m, rfl⟩ := Base.fin_of ha
    rw [Base.start0 m]
    (try go_frame)
    have hb0 : Below w.heap.size w w0 := (pw_below_drewN (Below.refl _ _) q).grown hg0 (by simp) (fun j hj => by cases hj)
    have hrg0 : w0.ranges Tryd.prog 3 R bm w.heap.size n_ (Base.tabD (H := H)) (Maps.has (Base.tabD (H := H))) (Maps.size (Base.tabD (H := H))) := by simpa using hrg0
    (try simp only [World.heap_drewN])
    clear hg0 hs0
    go_loopw [3] (fun o wr => ∃ (left : Lit → Bool) (cnt : Nat), o = .int .i64 (Base.encS (m.1 : Nat) (left (.int .i64 1)) (left (.int .i64 2)) (left (.int .i64 4))) ∧ wr.ranges Tryd.prog 3 R bm w.heap.size n_ Base.tabD left cnt ∧ (∀ z, left z = true → Maps.has (Base.tabD (H := H)) z = true) ∧ Below w.heap.size w wr)
      (fun _ wr => wr.rangeLeft bm w.heap.size)
    case atStart => exact ⟨_, _, by rw [(Base.has_key (H := H)).1, (Base.has_key (H := H)).2.1, (Base.has_key (H := H)).2.2], hrg0, fun _ h => h, hb0⟩
    case round =>
      obtain ⟨left, cnt, ho, hrg, hhas, hb⟩ := hrel
      obtain ⟨o, hoe⟩ : ∃ o, Base.encS (m.1 : Nat) (left (.int .i64 1)) (left (.int .i64 2)) (left (.int .i64 4)) = o := ⟨_, rfl⟩
      rw [hoe] at ho
      subst ho
      go_wp2_with (first
        | (at_next; refine wpList_next_ranges _ rfl _ rfl 3 Base.law R (Value.int .i64) (fun v => v) (fun key kl hk => by obtain ⟨x, hx, _⟩ := Maps.keyOf_int_inv Tryd.underlying3 hk; exact ⟨x, hx⟩) (fun v _ _ => ⟨v, rfl⟩) bm w.heap.size n_ _ _ _ rfl hrg ?_ ?_)
        | go_in)
      · intro _ hl0
        go_wp2
        go_ret
        exact ⟨by rw [Base.encN, if_pos ha, ← hoe]; simp [hl0], hb⟩
      · intro x v kl yd yp w1 cnt1 hkey hlk hv hat hrg1 hlt hg1 hs1 hen
        have hb1 : Below w.heap.size w w1 := hb.grown hg1 hb.size (fun j hj => by cases hj; exact Nat.le_refl _)
        obtain ⟨x', ex, rfl, _⟩ := Maps.keyOf_int_inv Tryd.underlying3 hkey
        obtain rfl : x = x' := by simpa using ex
        have hk := Base.tab_has (hhas _ hlk)
        clear hs1 hg1 hb hkey ex
        have hst : ∀ ad c x0 x1 x2, w.cell? (Addr.add ad 0) = some (.int .i64 x0) → w.cell? (ad.add 1) = some (.int .i64 x1) → w.cell? (ad.add 2) = some (.int .i64 x2) → v = .slice (some ad) 3 c →
            w1.cell? (ad.add 0) = some (.int .i64 x0) ∧ w1.cell? (ad.add 1) = some (.int .i64 x1) ∧ w1.cell? (ad.add 2) = some (.int .i64 x2) := fun ad c x0 x1 x2 a b d _ => ⟨Base.cell_below a hb1 rfl, Base.cell_below b hb1 rfl, Base.cell_below d hb1 rfl⟩
        rcases hk with hk | hk | hk
        · obtain rfl : x = 1 := by simpa using hk
          obtain ⟨ad, c, rfl, c0, c1, c2⟩ := hR v (yd, yp) 3 5 7 hv (hat .nil).symm
          obtain ⟨d0, d1, d2⟩ := hst ad c 3 5 7 c0 c1 c2 rfl
          replace d0 : w1.cell? ad = some (.int .i64 3) := d0
          replace d1 : w1.cell? ⟨ad.block, ad.off + 1, none⟩ = some (.int .i64 5) := d1
          replace d2 : w1.cell? ⟨ad.block, ad.off + 2, none⟩ = some (.int .i64 7) := d2
          have p0 := fun W => impl_place.calls o 3 (Base.pl o 4) W (place_at o _ _ (by omega) rfl)
          have p1 := fun W => impl_place.calls o 5 (Base.pl o 2) W (place_at o _ _ (by omega) rfl)
          have p2 := fun W => impl_place.calls o 7 (Base.pl o 0) W (place_at o _ _ (by omega) rfl)
          have hle := hrg.left_eq
          clear c0 c1 c2 hst hk hat hv hR hcell hown hrg0 hw hrg
          go_wp2
          refine wp_loop_rounds 4 ?_
          rw [rounds_succ]; go_wp2_with (first | (go_at_call 31; refine (p0 _).mono ?_; rintro e w' ⟨rfl, ⟨q, rfl⟩⟩) | go_in)
          rw [rounds_succ]; go_wp2_with (first | (go_at_call 31; refine (p1 _).mono ?_; rintro e w' ⟨rfl, ⟨q, rfl⟩⟩) | go_in)
          rw [rounds_succ]; go_wp2_with (first | (go_at_call 31; refine (p2 _).mono ?_; rintro e w' ⟨rfl, ⟨q, rfl⟩⟩) | go_in)
          rw [rounds_succ]
          go_wp2
          refine ⟨⟨fun z => left z && !z.sameKey (.int .i64 1), cnt1, ?_, Base.ranges_drewN hrg1 _, fun z hz => hhas z (by simp only [Bool.and_eq_true] at hz; exact hz.1), pw_below_drewN hb1 _⟩, ?_⟩
          · rw [hlk] at hoe
            subst hoe
            refine congrArg (Value.int .i64) ((Base.step1 m _ _).trans ?_)
            simp [Lit.sameKey]
          · rw [(Base.ranges_drewN hrg1 _).left_eq, hle]
            exact hlt
        · obtain rfl : x = 2 := by simpa using hk
          obtain ⟨ad, c, rfl, c0, c1, c2⟩ := hR v (yd, yp) 3 6 7 hv (hat .nil).symm
          obtain ⟨d0, d1, d2⟩ := hst ad c 3 6 7 c0 c1 c2 rfl
          replace d0 : w1.cell? ad = some (.int .i64 3) := d0
          replace d1 : w1.cell? ⟨ad.block, ad.off + 1, none⟩ = some (.int .i64 6) := d1
          replace d2 : w1.cell? ⟨ad.block, ad.off + 2, none⟩ = some (.int .i64 7) := d2
          have p0 := fun W => impl_place.calls o 3 (Base.pl o 4) W (place_at o _ _ (by omega) rfl)
          have p1 := fun W => impl_place.calls o 6 (Base.pl o 1) W (place_at o _ _ (by omega) rfl)
          have p2 := fun W => impl_place.calls o 7 (Base.pl o 0) W (place_at o _ _ (by omega) rfl)
          have hle := hrg.left_eq
          clear c0 c1 c2 hst hk hat hv hR hcell hown hrg0 hw hrg
          go_wp2
          refine wp_loop_rounds 4 ?_
          rw [rounds_succ]; go_wp2_with (first | (go_at_call 31; refine (p0 _).mono ?_; rintro e w' ⟨rfl, ⟨q, rfl⟩⟩) | go_in)
          rw [rounds_succ]; go_wp2_with (first | (go_at_call 31; refine (p1 _).mono ?_; rintro e w' ⟨rfl, ⟨q, rfl⟩⟩) | go_in)
          rw [rounds_succ]; go_wp2_with (first | (go_at_call 31; refine (p2 _).mono ?_; rintro e w' ⟨rfl, ⟨q, rfl⟩⟩) | go_in)
          rw [rounds_succ]
          go_wp2
          refine ⟨⟨fun z => left z && !z.sameKey (.int .i64 2), cnt1, ?_, Base.ranges_drewN hrg1 _, fun z hz => hhas z (by simp only [Bool.and_eq_true] at hz; exact hz.1), pw_below_drewN hb1 _⟩, ?_⟩
          · rw [hlk] at hoe
            subst hoe
            refine congrArg (Value.int .i64) ((Base.step2 m _ _).trans ?_)
            simp [Lit.sameKey]
          · rw [(Base.ranges_drewN hrg1 _).left_eq, hle]
            exact hlt
        · obtain rfl : x = 4 := by simpa using hk
          obtain ⟨ad, c, rfl, c0, c1, c2⟩ := hR v (yd, yp) 5 6 7 hv (hat .nil).symm
          obtain ⟨d0, d1, d2⟩ := hst ad c 5 6 7 c0 c1 c2 rfl
          replace d0 : w1.cell? ad = some (.int .i64 5) := d0
          replace d1 : w1.cell? ⟨ad.block, ad.off + 1, none⟩ = some (.int .i64 6) := d1
          replace d2 : w1.cell? ⟨ad.block, ad.off + 2, none⟩ = some (.int .i64 7) := d2
          have p0 := fun W => impl_place.calls o 5 (Base.pl o 2) W (place_at o _ _ (by omega) rfl)
          have p1 := fun W => impl_place.calls o 6 (Base.pl o 1) W (place_at o _ _ (by omega) rfl)
          have p2 := fun W => impl_place.calls o 7 (Base.pl o 0) W (place_at o _ _ (by omega) rfl)
          have hle := hrg.left_eq
          clear c0 c1 c2 hst hk hat hv hR hcell hown hrg0 hw hrg
          go_wp2
          refine wp_loop_rounds 4 ?_
          rw [rounds_succ]; go_wp2_with (first | (go_at_call 31; refine (p0 _).mono ?_; rintro e w' ⟨rfl, ⟨q, rfl⟩⟩) | go_in)
          rw [rounds_succ]; go_wp2_with (first | (go_at_call 31; refine (p1 _).mono ?_; rintro e w' ⟨rfl, ⟨q, rfl⟩⟩) | go_in)
          rw [rounds_succ]; go_wp2_with (first | (go_at_call 31; refine (p2 _).mono ?_; rintro e w' ⟨rfl, ⟨q, rfl⟩⟩) | go_in)
          rw [rounds_succ]
          go_wp2
          refine ⟨⟨fun z => left z && !z.sameKey (.int .i64 4), cnt1, ?_, Base.ranges_drewN hrg1 _, fun z hz => hhas z (by simp only [Bool.and_eq_true] at hz; exact hz.1), pw_below_drewN hb1 _⟩, ?_⟩
          · rw [hlk] at hoe
            subst hoe
            refine congrArg (Value.int .i64) ((Base.step4 m _ _).trans ?_)
            simp [Lit.sameKey]
          · rw [(Base.ranges_drewN hrg1 _).left_eq, hle]
            exact hlt
  · rw [decide_eq_false ha] at hw
    have e : Base.encN a0 = -1 := if_neg ha
    rw [e]
    go_enter Tryd.func12, Tryd.ntmps12
    go_wp2_with (first | (go_at_call 30; refine (hw _).mono ?_; rintro e w' ⟨rfl, ⟨q, rfl⟩⟩))
    go_ret
    exact ⟨rfl, pw_below_drewN (Below.refl _ _) _⟩

def impl_EncodeNibble.f (a0 : Int) : Option Int := some (Base.encN a0)
theorem impl_EncodeNibble.calls (a0 : Int) (r : Int) (w : World) (hG : Base.RulesAt w) (h : impl_EncodeNibble.f a0 = some r) :
    Calls Tryd.prog 12 #[.int .i64 a0] w fun e w' => e = .returned (.int .i64 r) ∧ Below w.heap.size w w' := by
  obtain rfl : Base.encN a0 = r := Option.some.inj h
  exact impl_EncodeNibble.go a0 w hG

/-! ### impl_isData: function 36 -/
def impl_isData.f (l0 : List Int) : Option (Bool) := some (decide ((l0.length : Int) ≤ 600))
set_option maxHeartbeats 8000000 in
set_option maxRecDepth 100000 in
theorem impl_isData.calls (A0 : Option Addr) (c0 : Nat) (l0 : List Int) (r : Bool) (w : World) (hr0 : Kd.C (Kd.int .u8) w A0 l0.length l0) (hc0 : l0.length ≤ c0) (h : impl_isData.f l0 = some r) :
    Calls Tryd.prog 36 #[.slice A0 l0.length c0] w fun e w' => e = .returned (.bool r) ∧ Drawn0 w w' := by
  have HR0 := Aside0.mk hr0
  have HC0 := Aside0.mk hc0
  clear hr0 hc0
  have H : (some (decide ((l0.length : Int) ≤ 600))) = some r := h
  clear h
  obtain rfl := Option.some.inj H
  go_enter Tryd.func36, Tryd.ntmps36
  go_wp2
  go_ret
  exact ⟨by first | rfl | (simp; done) | (simp [*]; done), by repeat (first | exact Drawn0.refl _ | apply Drawn0.step)⟩

end Go.Proofs.YtpifogfnafogaaaDoor.PAll
