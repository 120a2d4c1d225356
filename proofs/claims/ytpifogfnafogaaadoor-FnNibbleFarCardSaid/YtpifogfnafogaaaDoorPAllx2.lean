-- WRITTEN BY A PROGRAM OF THIS SESSION (wip/tools/printall.py) over the kit's print: what each Go function answers, and that the machine's call does so. Lean checks it.
import Derived.Test.YtpifogfnafogaaaDoorPAllx0
import Derived.Test.YtpifogfnafogaaaDoorPAllx1
namespace Go.Proofs.YtpifogfnafogaaaDoor.PAll
open Go.RowKit Go.Proofs.YtpifogfnafogaaaDoorW.PrintWords Go.Proofs.YtpifogfnafogaaaDoorW.PrintLast Go.Proofs.YtpifogfnafogaaaDoorW.PrintMore
attribute [local go_sem] max2_int min2_int max_two min_two max_three min_three max_four min_four   -- for this text's walks alone
set_option linter.unusedVariables false
set_option linter.unusedSimpArgs false

-- IMPORT HNib
/-! ### impl.EncodeNibble, by hand: a range over the map of rules (HNib) -/
attribute [local go_sem] Base.idx0 Base.idx1 Base.idx2 Base.idx3
theorem w64_ {x : Int} (h1 : -9223372036854775808 ≤ x) (h2 : x ≤ 9223372036854775807) : wrap64 x = x := by
  unfold wrap64
  omega
theorem place_at (o i : Int) (k : Nat) (hi : 1 ≤ i ∧ i ≤ 7) (hk : 7 - i = k) : impl_place.f o i = some (Base.pl o k) := by
  have e : wrap64 (7 - i) = k := by
    rw [← hk]
    exact w64_ (by omega) (by omega)
  unfold impl_place.f
  rw [e, if_pos (by omega)]
  have : min (k : Int).toNat 64 = k := by omega
  show some (Go.bits .and .i64 (o / 2 ^ min (k : Int).toNat 64) 1) = _
  rw [this]
  rfl
set_option maxHeartbeats 8000000 in
set_option maxRecDepth 100000 in
theorem impl_EncodeNibble.go (a0 : Int) (w : World) (hG : Base.RulesAt w) : Calls Tryd.prog 12 #[.int .i64 a0] w fun e w' => e = .returned (.int .i64 (Base.encN a0)) ∧ Below w.heap.size w w' := by
  have hw := fun W => impl_within.calls a0 0 15 (decide (0 ≤ a0 ∧ a0 ≤ 15)) W (by unfold impl_within.f; by_cases h : 0 ≤ a0 <;> simp [h])
  obtain ⟨H, R, bm, n_, hcell, hown, hR⟩ := hG
  by_cases ha : 0 ≤ a0 ∧ a0 ≤ 15
  · rw [decide_eq_true ha] at hw
    go_enter Tryd.func12, Tryd.ntmps12
    go_wp2_with (first | (go_at_call 30; refine (hw _).mono ?_; rintro e w' ⟨rfl, ⟨q, rfl⟩⟩))
    refine wp_loop_rounds 5 ?_
    iterate 4 (rw [rounds_succ]; go_wp2)
    rw [rounds_succ]
    go_wp2_with (first
      | (at_range; refine wpList_range_own _ rfl _ 37 rfl 3 38 Base.law Tryd.underlying37 _ bm n_ _ rfl (Base.ownsMap_drewN hown _) ?_; intro w0 hrg0 hg0 hs0)
      | go_in)
    obtain ⟨m, rfl⟩ := Base.fin_of ha
    rw [Base.start0 m]
    (try go_frame)
    have hb0 : Below w.heap.size w w0 := (pw_below_drewN (Below.refl _ _) q).grown hg0 (by simp) (fun j hj => by cases hj)
    have hrg0 : w0.ranges Tryd.prog 3 R bm w.heap.size n_ (Base.tabD (H := H)) (Maps.has (Base.tabD (H := H))) (Maps.size (Base.tabD (H := H))) := by simpa using hrg0
    (try simp only [World.heap_drewN])
    clear hg0 hs0
    go_loopw [3] (fun o wr => ∃ (left : Lit → Bool) (cnt : Nat), o = .int .i64 (Base.encS (m.1 : Nat) (left (.int .i64 1)) (left (.int .i64 2)) (left (.int .i64 4))) ∧ wr.ranges Tryd.prog 3 R bm w.heap.size n_ Base.tabD left cnt ∧ (∀ z, left z = true → Maps.has (Base.tabD (H := H)) z = true) ∧ Below w.heap.size w wr)
      (fun _ wr => wr.rangeLeft bm w.heap.size)
    case atStart => exact ⟨_, _, by rw [(Base.has_key (H := H)).1, (Base.has_key (H := H)).2.1, (Base.has_key (H := H)).2.2], hrg0, fun _ h => h, hb0⟩
    case round =>
      obtain ⟨left, cnt, ho, hrg, hhas, hb⟩ := hrel
      obtain ⟨o, hoe⟩ : ∃ o, Base.encS (m.1 : Nat) (left (.int .i64 1)) (left (.int .i64 2)) (left (.int .i64 4)) = o := ⟨_, rfl⟩
      rw [hoe] at ho
      subst ho
      go_wp2_with (first
        | (at_next; refine wpList_next_ranges _ rfl _ rfl 3 Base.law R (Value.int .i64) (fun v => v) (fun key kl hk => by obtain ⟨x, hx, _⟩ := Maps.keyOf_int_inv Tryd.underlying3 hk; exact ⟨x, hx⟩) (fun v _ _ => ⟨v, rfl⟩) bm w.heap.size n_ _ _ _ rfl hrg ?_ ?_)
        | go_in)
      · intro _ hl0
        go_wp2
        go_ret
        exact ⟨by rw [Base.encN, if_pos ha, ← hoe]; simp [hl0], hb⟩
      · intro x v kl yd yp w1 cnt1 hkey hlk hv hat hrg1 hlt hg1 hs1 hen
        have hb1 : Below w.heap.size w w1 := hb.grown hg1 hb.size (fun j hj => by cases hj; exact Nat.le_refl _)
        obtain ⟨x', ex, rfl, _⟩ := Maps.keyOf_int_inv Tryd.underlying3 hkey
        obtain rfl : x = x' := by simpa using ex
        have hk := Base.tab_has (hhas _ hlk)
        clear hs1 hg1 hb hkey ex
        have hst : ∀ ad c x0 x1 x2, w.cell? (Addr.add ad 0) = some (.int .i64 x0) → w.cell? (ad.add 1) = some (.int .i64 x1) → w.cell? (ad.add 2) = some (.int .i64 x2) → v = .slice (some ad) 3 c →
            w1.cell? (ad.add 0) = some (.int .i64 x0) ∧ w1.cell? (ad.add 1) = some (.int .i64 x1) ∧ w1.cell? (ad.add 2) = some (.int .i64 x2) := fun ad c x0 x1 x2 a b d _ => ⟨Base.cell_below a hb1 rfl, Base.cell_below b hb1 rfl, Base.cell_below d hb1 rfl⟩
        rcases hk with hk | hk | hk
        · obtain rfl : x = 1 := by simpa using hk
          obtain ⟨ad, c, rfl, c0, c1, c2⟩ := hR v (yd, yp) 3 5 7 hv (hat .nil).symm
          obtain ⟨d0, d1, d2⟩ := hst ad c 3 5 7 c0 c1 c2 rfl
          replace d0 : w1.cell? ad = some (.int .i64 3) := d0
          replace d1 : w1.cell? ⟨ad.block, ad.off + 1, none⟩ = some (.int .i64 5) := d1
          replace d2 : w1.cell? ⟨ad.block, ad.off + 2, none⟩ = some (.int .i64 7) := d2
          have p0 := fun W => impl_place.calls o 3 (Base.pl o 4) W (place_at o _ _ (by omega) rfl)
          have p1 := fun W => impl_place.calls o 5 (Base.pl o 2) W (place_at o _ _ (by omega) rfl)
          have p2 := fun W => impl_place.calls o 7 (Base.pl o 0) W (place_at o _ _ (by omega) rfl)
          have hle := hrg.left_eq
          clear c0 c1 c2 hst hk hat hv hR hcell hown hrg0 hw hrg
          go_wp2
          refine wp_loop_rounds 4 ?_
          rw [rounds_succ]; go_wp2_with (first | (go_at_call 31; refine (p0 _).mono ?_; rintro e w' ⟨rfl, ⟨q, rfl⟩⟩) | go_in)
          rw [rounds_succ]; go_wp2_with (first | (go_at_call 31; refine (p1 _).mono ?_; rintro e w' ⟨rfl, ⟨q, rfl⟩⟩) | go_in)
          rw [rounds_succ]; go_wp2_with (first | (go_at_call 31; refine (p2 _).mono ?_; rintro e w' ⟨rfl, ⟨q, rfl⟩⟩) | go_in)
          rw [rounds_succ]
          go_wp2
          refine ⟨⟨fun z => left z && !z.sameKey (.int .i64 1), cnt1, ?_, Base.ranges_drewN hrg1 _, fun z hz => hhas z (by simp only [Bool.and_eq_true] at hz; exact hz.1), pw_below_drewN hb1 _⟩, ?_⟩
          · rw [hlk] at hoe
            subst hoe
            refine congrArg (Value.int .i64) ((Base.step1 m _ _).trans ?_)
            simp [Lit.sameKey]
          · rw [(Base.ranges_drewN hrg1 _).left_eq, hle]
            exact hlt
        · obtain rfl : x = 2 := by simpa using hk
          obtain ⟨ad, c, rfl, c0, c1, c2⟩ := hR v (yd, yp) 3 6 7 hv (hat .nil).symm
          obtain ⟨d0, d1, d2⟩ := hst ad c 3 6 7 c0 c1 c2 rfl
          replace d0 : w1.cell? ad = some (.int .i64 3) := d0
          replace d1 : w1.cell? ⟨ad.block, ad.off + 1, none⟩ = some (.int .i64 6) := d1
          replace d2 : w1.cell? ⟨ad.block, ad.off + 2, none⟩ = some (.int .i64 7) := d2
          have p0 := fun W => impl_place.calls o 3 (Base.pl o 4) W (place_at o _ _ (by omega) rfl)
          have p1 := fun W => impl_place.calls o 6 (Base.pl o 1) W (place_at o _ _ (by omega) rfl)
          have p2 := fun W => impl_place.calls o 7 (Base.pl o 0) W (place_at o _ _ (by omega) rfl)
          have hle := hrg.left_eq
          clear c0 c1 c2 hst hk hat hv hR hcell hown hrg0 hw hrg
          go_wp2
          refine wp_loop_rounds 4 ?_
          rw [rounds_succ]; go_wp2_with (first | (go_at_call 31; refine (p0 _).mono ?_; rintro e w' ⟨rfl, ⟨q, rfl⟩⟩) | go_in)
          rw [rounds_succ]; go_wp2_with (first | (go_at_call 31; refine (p1 _).mono ?_; rintro e w' ⟨rfl, ⟨q, rfl⟩⟩) | go_in)
          rw [rounds_succ]; go_wp2_with (first | (go_at_call 31; refine (p2 _).mono ?_; rintro e w' ⟨rfl, ⟨q, rfl⟩⟩) | go_in)
          rw [rounds_succ]
          go_wp2
          refine ⟨⟨fun z => left z && !z.sameKey (.int .i64 2), cnt1, ?_, Base.ranges_drewN hrg1 _, fun z hz => hhas z (by simp only [Bool.and_eq_true] at hz; exact hz.1), pw_below_drewN hb1 _⟩, ?_⟩
          · rw [hlk] at hoe
            subst hoe
            refine congrArg (Value.int .i64) ((Base.step2 m _ _).trans ?_)
            simp [Lit.sameKey]
          · rw [(Base.ranges_drewN hrg1 _).left_eq, hle]
            exact hlt
        · obtain rfl : x = 4 := by simpa using hk
          obtain ⟨ad, c, rfl, c0, c1, c2⟩ := hR v (yd, yp) 5 6 7 hv (hat .nil).symm
          obtain ⟨d0, d1, d2⟩ := hst ad c 5 6 7 c0 c1 c2 rfl
          replace d0 : w1.cell? ad = some (.int .i64 5) := d0
          replace d1 : w1.cell? ⟨ad.block, ad.off + 1, none⟩ = some (.int .i64 6) := d1
          replace d2 : w1.cell? ⟨ad.block, ad.off + 2, none⟩ = some (.int .i64 7) := d2
          have p0 := fun W => impl_place.calls o 5 (Base.pl o 2) W (place_at o _ _ (by omega) rfl)
          have p1 := fun W => impl_place.calls o 6 (Base.pl o 1) W (place_at o _ _ (by omega) rfl)
          have p2 := fun W => impl_place.calls o 7 (Base.pl o 0) W (place_at o _ _ (by omega) rfl)
          have hle := hrg.left_eq
          clear c0 c1 c2 hst hk hat hv hR hcell hown hrg0 hw hrg
          go_wp2
          refine wp_loop_rounds 4 ?_
          rw [rounds_succ]; go_wp2_with (first | (go_at_call 31; refine (p0 _).mono ?_; rintro e w' ⟨rfl, ⟨q, rfl⟩⟩) | go_in)
          rw [rounds_succ]; go_wp2_with (first | (go_at_call 31; refine (p1 _).mono ?_; rintro e w' ⟨rfl, ⟨q, rfl⟩⟩) | go_in)
          rw [rounds_succ]; go_wp2_with (first | (go_at_call 31; refine (p2 _).mono ?_; rintro e w' ⟨rfl, ⟨q, rfl⟩⟩) | go_in)
          rw [rounds_succ]
          go_wp2
          refine ⟨⟨fun z => left z && !z.sameKey (.int .i64 4), cnt1, ?_, Base.ranges_drewN hrg1 _, fun z hz => hhas z (by simp only [Bool.and_eq_true] at hz; exact hz.1), pw_below_drewN hb1 _⟩, ?_⟩
          · rw [hlk] at hoe
            subst hoe
            refine congrArg (Value.int .i64) ((Base.step4 m _ _).trans ?_)
            simp [Lit.sameKey]
          · rw [(Base.ranges_drewN hrg1 _).left_eq, hle]
            exact hlt
  · rw [decide_eq_false ha] at hw
    have e : Base.encN a0 = -1 := if_neg ha
    rw [e]
    go_enter Tryd.func12, Tryd.ntmps12
    go_wp2_with (first | (go_at_call 30; refine (hw _).mono ?_; rintro e w' ⟨rfl, ⟨q, rfl⟩⟩))
    go_ret
    exact ⟨rfl, pw_below_drewN (Below.refl _ _) _⟩

def impl_EncodeNibble.f (a0 : Int) : Option Int := some (Base.encN a0)
theorem impl_EncodeNibble.calls (a0 : Int) (r : Int) (w : World) (hG : Base.RulesAt w) (h : impl_EncodeNibble.f a0 = some r) :
    Calls Tryd.prog 12 #[.int .i64 a0] w fun e w' => e = .returned (.int .i64 r) ∧ Below w.heap.size w w' := by
  obtain rfl : Base.encN a0 = r := Option.some.inj h
  exact impl_EncodeNibble.go a0 w hG

/-! ### laws_FnExactEncodeNibble: function 3 -/
def laws_FnExactEncodeNibble.f (k : Nat) (a0 : Int) : Option (Bool) := (spec_EncodeNibble.f k a0).bind fun t119 => ((impl_EncodeNibble.f a0).bind fun t120 => (if t120 = t119 then (some true) else (some false)))
theorem laws_FnExactEncodeNibble.mono : ∀ a0 k, LeO (laws_FnExactEncodeNibble.f k a0) (laws_FnExactEncodeNibble.f (k + 1) a0) := by
  intro a0 k
  unfold laws_FnExactEncodeNibble.f
  repeat' first
      | (with_reducible exact spec_EncodeNibble.mono _ _)
      | (with_reducible exact LeO.refl _)
      | (with_reducible exact LeO.none _)
      | (with_reducible refine LeO.ite ?_ ?_)
      | (with_reducible refine LeO.bind ?_ (fun _ => ?_))
      | exact spec_EncodeNibble.mono _ _
      | exact LeO.none _
      | refine LeO.ite ?_ ?_
      | refine LeO.bind ?_ (fun _ => ?_)
set_option maxHeartbeats 8000000 in
set_option maxRecDepth 100000 in
theorem laws_FnExactEncodeNibble.calls (k : Nat) (a0 : Int) (r : Bool) (w : World) (hG : Base.RulesAt w) (h : laws_FnExactEncodeNibble.f k a0 = some r) :
    Calls Tryd.prog 3 #[.int .i64 a0] w fun e w' => e = .returned (.bool r) ∧ Below w.heap.size w w' := by
  have HB := Aside0.mk (Below.refl w.heap.size w)
  have H : ((spec_EncodeNibble.f k a0).bind fun t119 => ((impl_EncodeNibble.f a0).bind fun t120 => (if t120 = t119 then (some true) else (some false)))) = some r := h
  clear h
  replace H := Option.bind_eq_some_iff.mp H
  obtain ⟨t119, A20, H⟩ := H
  replace H : ((impl_EncodeNibble.f a0).bind fun t120 => (if t120 = t119 then (some true) else (some false))) = some r := H
  have A2 := Aside0.mk A20
  clear A20
  replace H := Option.bind_eq_some_iff.mp H
  obtain ⟨t120, A30, H⟩ := H
  replace H : (if t120 = t119 then (some true) else (some false)) = some r := H
  have A3 := Aside0.mk A30
  clear A30
  by_cases c4 : t120 = t119
  · rw [if_pos c4] at H
    have c4b0 : (t120 == t119) = true := beq_iff_eq.mpr c4
    have c4b1 : (t120 != t119) = false := bne_eq_false_iff_eq.mpr c4
    clear c4
    obtain rfl := Option.some.inj H
    go_enter Tryd.func3, Tryd.ntmps3
    go_wp2_with (first | ((with_reducible refine gate_callee (f := 11) rfl ?_); refine goesL_ (some 6) rfl rfl Tryd.func11 (by kernel_rfl) rfl #[.int .i64 a0] rfl (by (try simp only [List.map_toArray, List.map_cons, List.map_nil]); first | done | rfl | (simp only [List.length_drop, List.length_take]; rfl)) ?_; (with_reducible refine (spec_EncodeNibble.calls k a0 t119 _ A2.out).mono ?_); rintro e w' ⟨rfl, ⟨nd, rfl⟩⟩; refine ⟨_, rfl, ?_⟩) | ((with_reducible refine gate_callee (f := 12) rfl ?_); refine goesL_ (some 8) rfl rfl Tryd.func12 (by kernel_rfl) rfl #[.int .i64 a0] rfl (by (try simp only [List.map_toArray, List.map_cons, List.map_nil]); first | done | rfl | (simp only [List.length_drop, List.length_take]; rfl)) ?_; (with_reducible refine (impl_EncodeNibble.calls a0 t120 _ ?sideG A3.out).mono ?_); (case sideG => exact hG.below (by repeat (first | (with_reducible first | exact HB.out | apply below_alloc | apply pw_below_drewN | apply below_drew1) | exact HB.out)) rfl); rintro e w5 ⟨rfl, hb⟩; refine ⟨_, rfl, ?_⟩; have n0_ := Aside0.mk (below_step (by repeat (first | (with_reducible first | exact HB.out | apply below_alloc | apply pw_below_drewN | apply below_drew1) | exact HB.out)) hb); clear HB; have HB := n0_; clear n0_; (try clear hb); (try clear hb2); (try clear hk); (try clear hi)))
    go_ret
    exact ⟨by first | rfl | (simp [errW_none, errW_some] <;> rfl) | (simp [*, errW_none, errW_some] <;> rfl), by repeat (first | (with_reducible first | exact HB.out | apply below_alloc | apply pw_below_drewN | apply below_drew1) | exact HB.out)⟩
  · rw [if_neg c4] at H
    have c4b0 : (t120 == t119) = false := beq_eq_false_iff_ne.mpr c4
    have c4b1 : (t120 != t119) = true := bne_iff_ne.mpr c4
    obtain rfl := Option.some.inj H
    go_enter Tryd.func3, Tryd.ntmps3
    go_wp2_with (first | ((with_reducible refine gate_callee (f := 11) rfl ?_); refine goesL_ (some 6) rfl rfl Tryd.func11 (by kernel_rfl) rfl #[.int .i64 a0] rfl (by (try simp only [List.map_toArray, List.map_cons, List.map_nil]); first | done | rfl | (simp only [List.length_drop, List.length_take]; rfl)) ?_; (with_reducible refine (spec_EncodeNibble.calls k a0 t119 _ A2.out).mono ?_); rintro e w' ⟨rfl, ⟨nd, rfl⟩⟩; refine ⟨_, rfl, ?_⟩) | ((with_reducible refine gate_callee (f := 12) rfl ?_); refine goesL_ (some 8) rfl rfl Tryd.func12 (by kernel_rfl) rfl #[.int .i64 a0] rfl (by (try simp only [List.map_toArray, List.map_cons, List.map_nil]); first | done | rfl | (simp only [List.length_drop, List.length_take]; rfl)) ?_; (with_reducible refine (impl_EncodeNibble.calls a0 t120 _ ?sideG A3.out).mono ?_); (case sideG => exact hG.below (by repeat (first | (with_reducible first | exact HB.out | apply below_alloc | apply pw_below_drewN | apply below_drew1) | exact HB.out)) rfl); rintro e w6 ⟨rfl, hb⟩; refine ⟨_, rfl, ?_⟩; have n0_ := Aside0.mk (below_step (by repeat (first | (with_reducible first | exact HB.out | apply below_alloc | apply pw_below_drewN | apply below_drew1) | exact HB.out)) hb); clear HB; have HB := n0_; clear n0_; (try clear hb); (try clear hb2); (try clear hk); (try clear hi)))
    go_ret
    exact ⟨by first | rfl | (simp [errW_none, errW_some] <;> rfl) | (simp [*, errW_none, errW_some] <;> rfl), by repeat (first | (with_reducible first | exact HB.out | apply below_alloc | apply pw_below_drewN | apply below_drew1) | exact HB.out)⟩

/-- THE ONE PURE STATEMENT of laws_FnExactEncodeNibble: yours. -/
def laws_FnExactEncodeNibble.Pure : Prop := ∀ (a0 : Int), (Lit.int .i64 a0).wf = true → ∃ k, laws_FnExactEncodeNibble.f k a0 = some true
theorem laws_FnExactEncodeNibble.walk (P : laws_FnExactEncodeNibble.Pure) (a0 : Int) (w : World) (w0 : (Lit.int .i64 a0).wf = true) (hG : Base.RulesAt w) :
    Calls Tryd.prog 3 #[.int .i64 a0] w fun e w' => e = .returned (.bool true) ∧ Below w.heap.size w w' := by
  obtain ⟨k, h⟩ := P a0 w0
  refine (laws_FnExactEncodeNibble.calls k a0 true w hG h).mono ?_
  rintro e w' ⟨rfl, hd⟩
  exact ⟨rfl, hd⟩

/-! ### spec_l1In: function 32 -/
def spec_l1In.f (a0 : Int) (a1 : Int) (a2 : Int) : Option (Bool) := if a0 ≥ a1 then (some (decide (a0 ≤ a2))) else (some false)
set_option maxHeartbeats 8000000 in
set_option maxRecDepth 100000 in
theorem spec_l1In.calls (a0 : Int) (a1 : Int) (a2 : Int) (r : Bool) (w : World) (h : spec_l1In.f a0 a1 a2 = some r) :
    Calls Tryd.prog 32 #[.int .i64 a0, .int .i64 a1, .int .i64 a2] w fun e w' => e = .returned (.bool r) ∧ Drawn0 w w' := by
  have H : (if a0 ≥ a1 then (some (decide (a0 ≤ a2))) else (some false)) = some r := h
  clear h
  by_cases c4 : a0 ≥ a1
  · rw [if_pos c4] at H
    have c4b0 : decide (a1 ≤ a0) = true := decide_eq_true c4
    clear c4
    obtain rfl := Option.some.inj H
    go_enter Tryd.func32, Tryd.ntmps32
    go_wp2
    go_ret
    exact ⟨by first | rfl | (simp; done) | (simp [*]; done), by repeat (first | exact Drawn0.refl _ | apply Drawn0.step)⟩
  · rw [if_neg c4] at H
    have c4b0 : decide (a1 ≤ a0) = false := decide_eq_false c4
    clear c4
    obtain rfl := Option.some.inj H
    go_enter Tryd.func32, Tryd.ntmps32
    go_wp2
    go_ret
    exact ⟨by first | rfl | (simp; done) | (simp [*]; done), by repeat (first | exact Drawn0.refl _ | apply Drawn0.step)⟩

/-! ### spec_DecodeNibble: function 13 -/
def spec_DecodeNibble.f (a0 : Int) : Option (Int × Int) := (spec_l1In.f a0 0 127).bind fun t121 => (if t121 = true then ((spec_l1Fault.f a0).bind fun t122 => (if t122 > 0 then (if 0 ≤ (wrap64 (7 - t122)) then ((spec_l1Four.f (Go.bits .xor .i64 a0 (shl .i64 1 (wrap64 (7 - t122))))).bind fun t123 => (some (t123, t122))) else (none)) else ((spec_l1Four.f a0).bind fun t124 => (some (t124, t122))))) else (some ((-1), (-1))))
set_option maxHeartbeats 8000000 in
set_option maxRecDepth 100000 in
theorem spec_DecodeNibble.calls (a0 : Int) (r1 : Int) (r2 : Int) (w : World) (h : spec_DecodeNibble.f a0 = some (r1, r2)) :
    Calls Tryd.prog 13 #[.int .i64 a0] w fun e w' => e = .returned (.tuple #[.int .i64 r1, .int .i64 r2]) ∧ Drawn0 w w' := by
  have H : ((spec_l1In.f a0 0 127).bind fun t121 => (if t121 = true then ((spec_l1Fault.f a0).bind fun t122 => (if t122 > 0 then (if 0 ≤ (wrap64 (7 - t122)) then ((spec_l1Four.f (Go.bits .xor .i64 a0 (shl .i64 1 (wrap64 (7 - t122))))).bind fun t123 => (some (t123, t122))) else (none)) else ((spec_l1Four.f a0).bind fun t124 => (some (t124, t122))))) else (some ((-1), (-1))))) = some (r1, r2) := h
  clear h
  replace H := Option.bind_eq_some_iff.mp H
  obtain ⟨t121, A20, H⟩ := H
  replace H : (if t121 = true then ((spec_l1Fault.f a0).bind fun t122 => (if t122 > 0 then (if 0 ≤ (wrap64 (7 - t122)) then ((spec_l1Four.f (Go.bits .xor .i64 a0 (shl .i64 1 (wrap64 (7 - t122))))).bind fun t123 => (some (t123, t122))) else (none)) else ((spec_l1Four.f a0).bind fun t124 => (some (t124, t122))))) else (some ((-1), (-1)))) = some (r1, r2) := H
  have A2 := Aside0.mk A20
  clear A20
  by_cases c3 : t121 = true
  · subst c3
    have H1 : ((spec_l1Fault.f a0).bind fun t122 => (if t122 > 0 then (if 0 ≤ (wrap64 (7 - t122)) then ((spec_l1Four.f (Go.bits .xor .i64 a0 (shl .i64 1 (wrap64 (7 - t122))))).bind fun t123 => (some (t123, t122))) else (none)) else ((spec_l1Four.f a0).bind fun t124 => (some (t124, t122))))) = some (r1, r2) := by rw [if_pos rfl] at H; exact H
    clear H
    have H := H1
    clear H1
    replace H := Option.bind_eq_some_iff.mp H
    obtain ⟨t122, A40, H⟩ := H
    replace H : (if t122 > 0 then (if 0 ≤ (wrap64 (7 - t122)) then ((spec_l1Four.f (Go.bits .xor .i64 a0 (shl .i64 1 (wrap64 (7 - t122))))).bind fun t123 => (some (t123, t122))) else (none)) else ((spec_l1Four.f a0).bind fun t124 => (some (t124, t122)))) = some (r1, r2) := H
    have A4 := Aside0.mk A40
    clear A40
    by_cases c5 : t122 > 0
    · rw [if_pos c5] at H
      have c5b0 : decide (0 < t122) = true := decide_eq_true c5
      clear c5
      obtain ⟨ji6, hji6⟩ : ∃ j_ : Int, (wrap64 (7 - t122)) = j_ := ⟨_, rfl⟩
      replace H : (if 0 ≤ (ji6) then ((spec_l1Four.f (Go.bits .xor .i64 a0 (shl .i64 1 (ji6)))).bind fun t123 => (some (t123, t122))) else (none)) = some (r1, r2) := by first | (rw [hji6] at H; exact H) | (simp only [hji6] at H ⊢; exact H)
      (try rw [hji6] at A2)
      (try rw [hji6] at A4)
      have hji6w : (IntKind.i64.wrap (7 - t122)) = ji6 := (i64_w _).trans hji6
      by_cases c7 : 0 ≤ (ji6)
      · rw [if_pos c7] at H
        have c7b0 := eq_true c7
        have c7b1 : decide (0 ≤ (ji6)) = true := decide_eq_true c7
        clear c7
        obtain ⟨ji8, hji8⟩ : ∃ j_ : Int, (shl .i64 1 (ji6)) = j_ := ⟨_, rfl⟩
        replace H : ((spec_l1Four.f (Go.bits .xor .i64 a0 (ji8))).bind fun t123 => (some (t123, t122))) = some (r1, r2) := by first | (rw [hji8] at H; exact H) | (simp only [hji8] at H ⊢; exact H)
        (try rw [hji8] at A2)
        (try rw [hji8] at A4)
        have hji8_ : (IntKind.i64.wrap (1 * 2 ^ min (ji6).toNat 64)) = ji8 := hji8
        have hji8z : (ji6) ≤ 64 → (IntKind.i64.wrap (1 * 2 ^ (ji6).toNat)) = ji8 := shl_small hji8
        have hji8u : (IntKind.i64.wrap (2 ^ min (ji6).toNat 64)) = ji8 := by have h_ := hji8_; rw [Int.one_mul] at h_; exact h_
        have hji8v : (ji6) ≤ 64 → (IntKind.i64.wrap (2 ^ (ji6).toNat)) = ji8 := fun hle_ => by have h_ := hji8z hle_; rw [Int.one_mul] at h_; exact h_
        have hji8y : (wrap64 (1 * 2 ^ min (ji6).toNat 64)) = ji8 := (i64_w _).symm.trans hji8_
        have hji8x : (ji6) ≤ 64 → (wrap64 (1 * 2 ^ (ji6).toNat)) = ji8 := fun h_ => (i64_w _).symm.trans (hji8z h_)
        replace H := Option.bind_eq_some_iff.mp H
        obtain ⟨t123, A90, H⟩ := H
        replace H : (some (t123, t122)) = some (r1, r2) := H
        have A9 := Aside0.mk A90
        clear A90
        simp only [Option.some.injEq, Prod.mk.injEq] at H
        obtain ⟨rfl, rfl⟩ := H
        go_enter Tryd.func13, Tryd.ntmps13
        go_wp2_with (first | ((with_reducible refine gate_callee (f := 32) rfl ?_); refine goesL_ (some 6) rfl rfl Tryd.func32 (by kernel_rfl) rfl #[.int .i64 a0, .int .i64 0, .int .i64 127] rfl (by (try simp only [List.map_toArray, List.map_cons, List.map_nil]); first | done | rfl | (simp only [List.length_drop, List.length_take]; rfl)) ?_; (with_reducible refine (spec_l1In.calls a0 0 127 true _ A2.out).mono ?_); rintro e w' ⟨rfl, ⟨nd, rfl⟩⟩; refine ⟨_, rfl, ?_⟩) | ((with_reducible refine gate_callee (f := 28) rfl ?_); refine goesL_ (some 9) rfl rfl Tryd.func28 (by kernel_rfl) rfl #[.int .i64 a0] rfl (by (try simp only [List.map_toArray, List.map_cons, List.map_nil]); first | done | rfl | (simp only [List.length_drop, List.length_take]; rfl)) ?_; (with_reducible refine (spec_l1Fault.calls a0 t122 _ A4.out).mono ?_); rintro e w' ⟨rfl, ⟨nd, rfl⟩⟩; refine ⟨_, rfl, ?_⟩) | ((with_reducible refine gate_callee (f := 29) rfl ?_); refine goesL_ (some 18) rfl rfl Tryd.func29 (by kernel_rfl) rfl #[.int .i64 (Go.bits .xor .i64 a0 (ji8))] rfl (by (try simp only [List.map_toArray, List.map_cons, List.map_nil]); first | done | (simp only [hji8]; rfl) | rfl | (simp only [List.length_drop, List.length_take]; rfl)) ?_; (with_reducible refine (spec_l1Four.calls (Go.bits .xor .i64 a0 (ji8)) t123 _ A9.out).mono ?_); rintro e w' ⟨rfl, ⟨nd, rfl⟩⟩; refine ⟨_, rfl, ?_⟩))
        go_ret2
        exact ⟨by first | rfl | (simp; done) | (simp only [← hji6, ← hji8] <;> (first | rfl | simp)) | (simp [*]; done), by repeat (first | exact Drawn0.refl _ | apply Drawn0.step)⟩
      · rw [if_neg c7] at H
        exact absurd H (by simp)
    · rw [if_neg c5] at H
      have c5b0 : decide (0 < t122) = false := decide_eq_false c5
      clear c5
      replace H := Option.bind_eq_some_iff.mp H
      obtain ⟨t124, A100, H⟩ := H
      replace H : (some (t124, t122)) = some (r1, r2) := H
      have A10 := Aside0.mk A100
      clear A100
      simp only [Option.some.injEq, Prod.mk.injEq] at H
      obtain ⟨rfl, rfl⟩ := H
      go_enter Tryd.func13, Tryd.ntmps13
      go_wp2_with (first | ((with_reducible refine gate_callee (f := 32) rfl ?_); refine goesL_ (some 6) rfl rfl Tryd.func32 (by kernel_rfl) rfl #[.int .i64 a0, .int .i64 0, .int .i64 127] rfl (by (try simp only [List.map_toArray, List.map_cons, List.map_nil]); first | done | rfl | (simp only [List.length_drop, List.length_take]; rfl)) ?_; (with_reducible refine (spec_l1In.calls a0 0 127 true _ A2.out).mono ?_); rintro e w' ⟨rfl, ⟨nd, rfl⟩⟩; refine ⟨_, rfl, ?_⟩) | ((with_reducible refine gate_callee (f := 28) rfl ?_); refine goesL_ (some 9) rfl rfl Tryd.func28 (by kernel_rfl) rfl #[.int .i64 a0] rfl (by (try simp only [List.map_toArray, List.map_cons, List.map_nil]); first | done | rfl | (simp only [List.length_drop, List.length_take]; rfl)) ?_; (with_reducible refine (spec_l1Fault.calls a0 t122 _ A4.out).mono ?_); rintro e w' ⟨rfl, ⟨nd, rfl⟩⟩; refine ⟨_, rfl, ?_⟩) | ((with_reducible refine gate_callee (f := 29) rfl ?_); refine goesL_ (some 18) rfl rfl Tryd.func29 (by kernel_rfl) rfl #[.int .i64 a0] rfl (by (try simp only [List.map_toArray, List.map_cons, List.map_nil]); first | done | rfl | (simp only [List.length_drop, List.length_take]; rfl)) ?_; (with_reducible refine (spec_l1Four.calls a0 t124 _ A10.out).mono ?_); rintro e w' ⟨rfl, ⟨nd, rfl⟩⟩; refine ⟨_, rfl, ?_⟩))
      go_ret2
      exact ⟨by first | rfl | (simp; done) | (simp [*]; done), by repeat (first | exact Drawn0.refl _ | apply Drawn0.step)⟩
  · replace c3 := Bool.eq_false_iff.mpr c3
    subst c3
    have H1 : (some ((-1), (-1))) = some (r1, r2) := by rw [if_neg (show ¬ (false = true) by decide)] at H; exact H
    clear H
    have H := H1
    clear H1
    simp only [Option.some.injEq, Prod.mk.injEq] at H
    obtain ⟨rfl, rfl⟩ := H
    go_enter Tryd.func13, Tryd.ntmps13
    go_wp2_with (first | ((with_reducible refine gate_callee (f := 32) rfl ?_); refine goesL_ (some 6) rfl rfl Tryd.func32 (by kernel_rfl) rfl #[.int .i64 a0, .int .i64 0, .int .i64 127] rfl (by (try simp only [List.map_toArray, List.map_cons, List.map_nil]); first | done | rfl | (simp only [List.length_drop, List.length_take]; rfl)) ?_; (with_reducible refine (spec_l1In.calls a0 0 127 false _ A2.out).mono ?_); rintro e w' ⟨rfl, ⟨nd, rfl⟩⟩; refine ⟨_, rfl, ?_⟩))
    go_ret2
    exact ⟨by first | rfl | (simp; done) | (simp [*]; done), by repeat (first | exact Drawn0.refl _ | apply Drawn0.step)⟩

end Go.Proofs.YtpifogfnafogaaaDoor.PAll
