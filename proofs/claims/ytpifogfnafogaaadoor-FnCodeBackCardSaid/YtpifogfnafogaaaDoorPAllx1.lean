-- WRITTEN BY A PROGRAM OF THIS SESSION (wip/tools/printall.py) over the kit's print: what each Go function answers, and that the machine's call does so. Lean checks it.
import Derived.Test.YtpifogfnafogaaaDoorPAllx0
namespace Go.Proofs.YtpifogfnafogaaaDoor.PAll
open Go.RowKit Go.Proofs.YtpifogfnafogaaaDoorW.PrintWords Go.Proofs.YtpifogfnafogaaaDoorW.PrintLast Go.Proofs.YtpifogfnafogaaaDoorW.PrintMore
attribute [local go_sem] max2_int min2_int max_two min_two max_three min_three max_four min_four   -- for this text's walks alone
set_option linter.unusedVariables false
set_option linter.unusedSimpArgs false

/-! ### spec_l1Set: function 42 -/
def spec_l1Set.f (a0 : Int) (a1 : Int) : Option (Int) := if 0 ≤ (wrap64 (7 - a1)) then (some (Int.tmod (shr .i64 a0 (wrap64 (7 - a1))) 2)) else (none)
set_option maxHeartbeats 8000000 in
set_option maxRecDepth 100000 in
theorem spec_l1Set.calls (a0 : Int) (a1 : Int) (r : Int) (w : World) (h : spec_l1Set.f a0 a1 = some r) :
    Calls Tryd.prog 42 #[.int .i64 a0, .int .i64 a1] w fun e w' => e = .returned (.int .i64 r) ∧ Drawn0 w w' := by
  have H : (if 0 ≤ (wrap64 (7 - a1)) then (some (Int.tmod (shr .i64 a0 (wrap64 (7 - a1))) 2)) else (none)) = some r := h
  clear h
  obtain ⟨ji3, hji3⟩ : ∃ j_ : Int, (wrap64 (7 - a1)) = j_ := ⟨_, rfl⟩
  replace H : (if 0 ≤ (ji3) then (some (Int.tmod (shr .i64 a0 (ji3)) 2)) else (none)) = some r := by first | (rw [hji3] at H; exact H) | (simp only [hji3] at H ⊢; exact H)
  have hji3w : (IntKind.i64.wrap (7 - a1)) = ji3 := (i64_w _).trans hji3
  by_cases c4 : 0 ≤ (ji3)
  · rw [if_pos c4] at H
    have c4b0 := eq_true c4
    have c4b1 : decide (0 ≤ (ji3)) = true := decide_eq_true c4
    clear c4
    obtain ⟨ji5, hji5⟩ : ∃ j_ : Int, (shr .i64 a0 (ji3)) = j_ := ⟨_, rfl⟩
    replace H : (some (Int.tmod (ji5) 2)) = some r := by first | (rw [hji5] at H; exact H) | (simp only [hji5] at H ⊢; exact H)
    have hji5_ : (a0 / 2 ^ min (ji3).toNat 64) = ji5 := hji5
    have hji5z : (ji3) ≤ 64 → (a0 / 2 ^ (ji3).toNat) = ji5 := shr_small hji5
    obtain rfl := Option.some.inj H
    go_enter Tryd.func42, Tryd.ntmps42
    go_wp2
    go_ret
    exact ⟨by first | rfl | (simp; done) | (simp only [← hji3, ← hji5] <;> (first | rfl | simp)) | (simp [*]; done), by repeat (first | exact Drawn0.refl _ | apply Drawn0.step)⟩
  · rw [if_neg c4] at H
    exact absurd H (by simp)

/-! ### spec_l1Fault: function 28 -/
def spec_l1Fault.f (a0 : Int) : Option (Int) := (spec_l1Set.f a0 1).bind fun t101 => ((spec_l1Set.f a0 3).bind fun t102 => ((spec_l1Set.f a0 5).bind fun t103 => ((spec_l1Set.f a0 7).bind fun t104 => ((spec_l1Set.f a0 2).bind fun t105 => ((spec_l1Set.f a0 3).bind fun t106 => ((spec_l1Set.f a0 6).bind fun t107 => ((spec_l1Set.f a0 7).bind fun t108 => ((spec_l1Set.f a0 4).bind fun t109 => ((spec_l1Set.f a0 5).bind fun t110 => ((spec_l1Set.f a0 6).bind fun t111 => ((spec_l1Set.f a0 7).bind fun t112 => (some (wrap64 ((wrap64 ((Int.tmod (wrap64 ((wrap64 ((wrap64 (t101 + t102)) + t103)) + t104)) 2) + (wrap64 (2 * (Int.tmod (wrap64 ((wrap64 ((wrap64 (t105 + t106)) + t107)) + t108)) 2))))) + (wrap64 (4 * (Int.tmod (wrap64 ((wrap64 ((wrap64 (t109 + t110)) + t111)) + t112)) 2)))))))))))))))))
set_option maxHeartbeats 8000000 in
set_option maxRecDepth 100000 in
theorem spec_l1Fault.calls (a0 : Int) (r : Int) (w : World) (h : spec_l1Fault.f a0 = some r) :
    Calls Tryd.prog 28 #[.int .i64 a0] w fun e w' => e = .returned (.int .i64 r) ∧ Drawn0 w w' := by
  have H : ((spec_l1Set.f a0 1).bind fun t101 => ((spec_l1Set.f a0 3).bind fun t102 => ((spec_l1Set.f a0 5).bind fun t103 => ((spec_l1Set.f a0 7).bind fun t104 => ((spec_l1Set.f a0 2).bind fun t105 => ((spec_l1Set.f a0 3).bind fun t106 => ((spec_l1Set.f a0 6).bind fun t107 => ((spec_l1Set.f a0 7).bind fun t108 => ((spec_l1Set.f a0 4).bind fun t109 => ((spec_l1Set.f a0 5).bind fun t110 => ((spec_l1Set.f a0 6).bind fun t111 => ((spec_l1Set.f a0 7).bind fun t112 => (some (wrap64 ((wrap64 ((Int.tmod (wrap64 ((wrap64 ((wrap64 (t101 + t102)) + t103)) + t104)) 2) + (wrap64 (2 * (Int.tmod (wrap64 ((wrap64 ((wrap64 (t105 + t106)) + t107)) + t108)) 2))))) + (wrap64 (4 * (Int.tmod (wrap64 ((wrap64 ((wrap64 (t109 + t110)) + t111)) + t112)) 2)))))))))))))))))) = some r := h
  clear h
  replace H := Option.bind_eq_some_iff.mp H
  obtain ⟨t101, A20, H⟩ := H
  replace H : ((spec_l1Set.f a0 3).bind fun t102 => ((spec_l1Set.f a0 5).bind fun t103 => ((spec_l1Set.f a0 7).bind fun t104 => ((spec_l1Set.f a0 2).bind fun t105 => ((spec_l1Set.f a0 3).bind fun t106 => ((spec_l1Set.f a0 6).bind fun t107 => ((spec_l1Set.f a0 7).bind fun t108 => ((spec_l1Set.f a0 4).bind fun t109 => ((spec_l1Set.f a0 5).bind fun t110 => ((spec_l1Set.f a0 6).bind fun t111 => ((spec_l1Set.f a0 7).bind fun t112 => (some (wrap64 ((wrap64 ((Int.tmod (wrap64 ((wrap64 ((wrap64 (t101 + t102)) + t103)) + t104)) 2) + (wrap64 (2 * (Int.tmod (wrap64 ((wrap64 ((wrap64 (t105 + t106)) + t107)) + t108)) 2))))) + (wrap64 (4 * (Int.tmod (wrap64 ((wrap64 ((wrap64 (t109 + t110)) + t111)) + t112)) 2))))))))))))))))) = some r := H
  have A2 := Aside0.mk A20
  clear A20
  replace H := Option.bind_eq_some_iff.mp H
  obtain ⟨t102, A30, H⟩ := H
  replace H : ((spec_l1Set.f a0 5).bind fun t103 => ((spec_l1Set.f a0 7).bind fun t104 => ((spec_l1Set.f a0 2).bind fun t105 => ((spec_l1Set.f a0 3).bind fun t106 => ((spec_l1Set.f a0 6).bind fun t107 => ((spec_l1Set.f a0 7).bind fun t108 => ((spec_l1Set.f a0 4).bind fun t109 => ((spec_l1Set.f a0 5).bind fun t110 => ((spec_l1Set.f a0 6).bind fun t111 => ((spec_l1Set.f a0 7).bind fun t112 => (some (wrap64 ((wrap64 ((Int.tmod (wrap64 ((wrap64 ((wrap64 (t101 + t102)) + t103)) + t104)) 2) + (wrap64 (2 * (Int.tmod (wrap64 ((wrap64 ((wrap64 (t105 + t106)) + t107)) + t108)) 2))))) + (wrap64 (4 * (Int.tmod (wrap64 ((wrap64 ((wrap64 (t109 + t110)) + t111)) + t112)) 2)))))))))))))))) = some r := H
  have A3 := Aside0.mk A30
  clear A30
  replace H := Option.bind_eq_some_iff.mp H
  obtain ⟨t103, A40, H⟩ := H
  replace H : ((spec_l1Set.f a0 7).bind fun t104 => ((spec_l1Set.f a0 2).bind fun t105 => ((spec_l1Set.f a0 3).bind fun t106 => ((spec_l1Set.f a0 6).bind fun t107 => ((spec_l1Set.f a0 7).bind fun t108 => ((spec_l1Set.f a0 4).bind fun t109 => ((spec_l1Set.f a0 5).bind fun t110 => ((spec_l1Set.f a0 6).bind fun t111 => ((spec_l1Set.f a0 7).bind fun t112 => (some (wrap64 ((wrap64 ((Int.tmod (wrap64 ((wrap64 ((wrap64 (t101 + t102)) + t103)) + t104)) 2) + (wrap64 (2 * (Int.tmod (wrap64 ((wrap64 ((wrap64 (t105 + t106)) + t107)) + t108)) 2))))) + (wrap64 (4 * (Int.tmod (wrap64 ((wrap64 ((wrap64 (t109 + t110)) + t111)) + t112)) 2))))))))))))))) = some r := H
  have A4 := Aside0.mk A40
  clear A40
  replace H := Option.bind_eq_some_iff.mp H
  obtain ⟨t104, A50, H⟩ := H
  replace H : ((spec_l1Set.f a0 2).bind fun t105 => ((spec_l1Set.f a0 3).bind fun t106 => ((spec_l1Set.f a0 6).bind fun t107 => ((spec_l1Set.f a0 7).bind fun t108 => ((spec_l1Set.f a0 4).bind fun t109 => ((spec_l1Set.f a0 5).bind fun t110 => ((spec_l1Set.f a0 6).bind fun t111 => ((spec_l1Set.f a0 7).bind fun t112 => (some (wrap64 ((wrap64 ((Int.tmod (wrap64 ((wrap64 ((wrap64 (t101 + t102)) + t103)) + t104)) 2) + (wrap64 (2 * (Int.tmod (wrap64 ((wrap64 ((wrap64 (t105 + t106)) + t107)) + t108)) 2))))) + (wrap64 (4 * (Int.tmod (wrap64 ((wrap64 ((wrap64 (t109 + t110)) + t111)) + t112)) 2)))))))))))))) = some r := H
  have A5 := Aside0.mk A50
  clear A50
  replace H := Option.bind_eq_some_iff.mp H
  obtain ⟨t105, A60, H⟩ := H
  replace H : ((spec_l1Set.f a0 3).bind fun t106 => ((spec_l1Set.f a0 6).bind fun t107 => ((spec_l1Set.f a0 7).bind fun t108 => ((spec_l1Set.f a0 4).bind fun t109 => ((spec_l1Set.f a0 5).bind fun t110 => ((spec_l1Set.f a0 6).bind fun t111 => ((spec_l1Set.f a0 7).bind fun t112 => (some (wrap64 ((wrap64 ((Int.tmod (wrap64 ((wrap64 ((wrap64 (t101 + t102)) + t103)) + t104)) 2) + (wrap64 (2 * (Int.tmod (wrap64 ((wrap64 ((wrap64 (t105 + t106)) + t107)) + t108)) 2))))) + (wrap64 (4 * (Int.tmod (wrap64 ((wrap64 ((wrap64 (t109 + t110)) + t111)) + t112)) 2))))))))))))) = some r := H
  have A6 := Aside0.mk A60
  clear A60
  replace H := Option.bind_eq_some_iff.mp H
  obtain ⟨t106, A70, H⟩ := H
  replace H : ((spec_l1Set.f a0 6).bind fun t107 => ((spec_l1Set.f a0 7).bind fun t108 => ((spec_l1Set.f a0 4).bind fun t109 => ((spec_l1Set.f a0 5).bind fun t110 => ((spec_l1Set.f a0 6).bind fun t111 => ((spec_l1Set.f a0 7).bind fun t112 => (some (wrap64 ((wrap64 ((Int.tmod (wrap64 ((wrap64 ((wrap64 (t101 + t102)) + t103)) + t104)) 2) + (wrap64 (2 * (Int.tmod (wrap64 ((wrap64 ((wrap64 (t105 + t106)) + t107)) + t108)) 2))))) + (wrap64 (4 * (Int.tmod (wrap64 ((wrap64 ((wrap64 (t109 + t110)) + t111)) + t112)) 2)))))))))))) = some r := H
  have A7 := Aside0.mk A70
  clear A70
  replace H := Option.bind_eq_some_iff.mp H
  obtain ⟨t107, A80, H⟩ := H
  replace H : ((spec_l1Set.f a0 7).bind fun t108 => ((spec_l1Set.f a0 4).bind fun t109 => ((spec_l1Set.f a0 5).bind fun t110 => ((spec_l1Set.f a0 6).bind fun t111 => ((spec_l1Set.f a0 7).bind fun t112 => (some (wrap64 ((wrap64 ((Int.tmod (wrap64 ((wrap64 ((wrap64 (t101 + t102)) + t103)) + t104)) 2) + (wrap64 (2 * (Int.tmod (wrap64 ((wrap64 ((wrap64 (t105 + t106)) + t107)) + t108)) 2))))) + (wrap64 (4 * (Int.tmod (wrap64 ((wrap64 ((wrap64 (t109 + t110)) + t111)) + t112)) 2))))))))))) = some r := H
  have A8 := Aside0.mk A80
  clear A80
  replace H := Option.bind_eq_some_iff.mp H
  obtain ⟨t108, A90, H⟩ := H
  replace H : ((spec_l1Set.f a0 4).bind fun t109 => ((spec_l1Set.f a0 5).bind fun t110 => ((spec_l1Set.f a0 6).bind fun t111 => ((spec_l1Set.f a0 7).bind fun t112 => (some (wrap64 ((wrap64 ((Int.tmod (wrap64 ((wrap64 ((wrap64 (t101 + t102)) + t103)) + t104)) 2) + (wrap64 (2 * (Int.tmod (wrap64 ((wrap64 ((wrap64 (t105 + t106)) + t107)) + t108)) 2))))) + (wrap64 (4 * (Int.tmod (wrap64 ((wrap64 ((wrap64 (t109 + t110)) + t111)) + t112)) 2)))))))))) = some r := H
  have A9 := Aside0.mk A90
  clear A90
  replace H := Option.bind_eq_some_iff.mp H
  obtain ⟨t109, A100, H⟩ := H
  replace H : ((spec_l1Set.f a0 5).bind fun t110 => ((spec_l1Set.f a0 6).bind fun t111 => ((spec_l1Set.f a0 7).bind fun t112 => (some (wrap64 ((wrap64 ((Int.tmod (wrap64 ((wrap64 ((wrap64 (t101 + t102)) + t103)) + t104)) 2) + (wrap64 (2 * (Int.tmod (wrap64 ((wrap64 ((wrap64 (t105 + t106)) + t107)) + t108)) 2))))) + (wrap64 (4 * (Int.tmod (wrap64 ((wrap64 ((wrap64 (t109 + t110)) + t111)) + t112)) 2))))))))) = some r := H
  have A10 := Aside0.mk A100
  clear A100
  replace H := Option.bind_eq_some_iff.mp H
  obtain ⟨t110, A110, H⟩ := H
  replace H : ((spec_l1Set.f a0 6).bind fun t111 => ((spec_l1Set.f a0 7).bind fun t112 => (some (wrap64 ((wrap64 ((Int.tmod (wrap64 ((wrap64 ((wrap64 (t101 + t102)) + t103)) + t104)) 2) + (wrap64 (2 * (Int.tmod (wrap64 ((wrap64 ((wrap64 (t105 + t106)) + t107)) + t108)) 2))))) + (wrap64 (4 * (Int.tmod (wrap64 ((wrap64 ((wrap64 (t109 + t110)) + t111)) + t112)) 2)))))))) = some r := H
  have A11 := Aside0.mk A110
  clear A110
  replace H := Option.bind_eq_some_iff.mp H
  obtain ⟨t111, A120, H⟩ := H
  replace H : ((spec_l1Set.f a0 7).bind fun t112 => (some (wrap64 ((wrap64 ((Int.tmod (wrap64 ((wrap64 ((wrap64 (t101 + t102)) + t103)) + t104)) 2) + (wrap64 (2 * (Int.tmod (wrap64 ((wrap64 ((wrap64 (t105 + t106)) + t107)) + t108)) 2))))) + (wrap64 (4 * (Int.tmod (wrap64 ((wrap64 ((wrap64 (t109 + t110)) + t111)) + t112)) 2))))))) = some r := H
  have A12 := Aside0.mk A120
  clear A120
  replace H := Option.bind_eq_some_iff.mp H
  obtain ⟨t112, A130, H⟩ := H
  replace H : (some (wrap64 ((wrap64 ((Int.tmod (wrap64 ((wrap64 ((wrap64 (t101 + t102)) + t103)) + t104)) 2) + (wrap64 (2 * (Int.tmod (wrap64 ((wrap64 ((wrap64 (t105 + t106)) + t107)) + t108)) 2))))) + (wrap64 (4 * (Int.tmod (wrap64 ((wrap64 ((wrap64 (t109 + t110)) + t111)) + t112)) 2)))))) = some r := H
  have A13 := Aside0.mk A130
  clear A130
  obtain rfl := Option.some.inj H
  go_enter Tryd.func28, Tryd.ntmps28
  go_wp2_with (first | ((with_reducible refine gate_callee (f := 42) rfl ?_); refine goesL_ (some 7) rfl rfl Tryd.func42 (by kernel_rfl) rfl #[.int .i64 a0, .int .i64 1] rfl (by (try simp only [List.map_toArray, List.map_cons, List.map_nil]); first | done | rfl | (simp only [List.length_drop, List.length_take]; rfl)) ?_; (with_reducible refine (spec_l1Set.calls a0 1 t101 _ A2.out).mono ?_); rintro e w' ⟨rfl, ⟨nd, rfl⟩⟩; refine ⟨_, rfl, ?_⟩) | ((with_reducible refine gate_callee (f := 42) rfl ?_); refine goesL_ (some 9) rfl rfl Tryd.func42 (by kernel_rfl) rfl #[.int .i64 a0, .int .i64 3] rfl (by (try simp only [List.map_toArray, List.map_cons, List.map_nil]); first | done | rfl | (simp only [List.length_drop, List.length_take]; rfl)) ?_; (with_reducible refine (spec_l1Set.calls a0 3 t102 _ A3.out).mono ?_); rintro e w' ⟨rfl, ⟨nd, rfl⟩⟩; refine ⟨_, rfl, ?_⟩) | ((with_reducible refine gate_callee (f := 42) rfl ?_); refine goesL_ (some 12) rfl rfl Tryd.func42 (by kernel_rfl) rfl #[.int .i64 a0, .int .i64 5] rfl (by (try simp only [List.map_toArray, List.map_cons, List.map_nil]); first | done | rfl | (simp only [List.length_drop, List.length_take]; rfl)) ?_; (with_reducible refine (spec_l1Set.calls a0 5 t103 _ A4.out).mono ?_); rintro e w' ⟨rfl, ⟨nd, rfl⟩⟩; refine ⟨_, rfl, ?_⟩) | ((with_reducible refine gate_callee (f := 42) rfl ?_); refine goesL_ (some 15) rfl rfl Tryd.func42 (by kernel_rfl) rfl #[.int .i64 a0, .int .i64 7] rfl (by (try simp only [List.map_toArray, List.map_cons, List.map_nil]); first | done | rfl | (simp only [List.length_drop, List.length_take]; rfl)) ?_; (with_reducible refine (spec_l1Set.calls a0 7 t104 _ A5.out).mono ?_); rintro e w' ⟨rfl, ⟨nd, rfl⟩⟩; refine ⟨_, rfl, ?_⟩) | ((with_reducible refine gate_callee (f := 42) rfl ?_); refine goesL_ (some 19) rfl rfl Tryd.func42 (by kernel_rfl) rfl #[.int .i64 a0, .int .i64 2] rfl (by (try simp only [List.map_toArray, List.map_cons, List.map_nil]); first | done | rfl | (simp only [List.length_drop, List.length_take]; rfl)) ?_; (with_reducible refine (spec_l1Set.calls a0 2 t105 _ A6.out).mono ?_); rintro e w' ⟨rfl, ⟨nd, rfl⟩⟩; refine ⟨_, rfl, ?_⟩) | ((with_reducible refine gate_callee (f := 42) rfl ?_); refine goesL_ (some 21) rfl rfl Tryd.func42 (by kernel_rfl) rfl #[.int .i64 a0, .int .i64 3] rfl (by (try simp only [List.map_toArray, List.map_cons, List.map_nil]); first | done | rfl | (simp only [List.length_drop, List.length_take]; rfl)) ?_; (with_reducible refine (spec_l1Set.calls a0 3 t106 _ A7.out).mono ?_); rintro e w' ⟨rfl, ⟨nd, rfl⟩⟩; refine ⟨_, rfl, ?_⟩) | ((with_reducible refine gate_callee (f := 42) rfl ?_); refine goesL_ (some 24) rfl rfl Tryd.func42 (by kernel_rfl) rfl #[.int .i64 a0, .int .i64 6] rfl (by (try simp only [List.map_toArray, List.map_cons, List.map_nil]); first | done | rfl | (simp only [List.length_drop, List.length_take]; rfl)) ?_; (with_reducible refine (spec_l1Set.calls a0 6 t107 _ A8.out).mono ?_); rintro e w' ⟨rfl, ⟨nd, rfl⟩⟩; refine ⟨_, rfl, ?_⟩) | ((with_reducible refine gate_callee (f := 42) rfl ?_); refine goesL_ (some 27) rfl rfl Tryd.func42 (by kernel_rfl) rfl #[.int .i64 a0, .int .i64 7] rfl (by (try simp only [List.map_toArray, List.map_cons, List.map_nil]); first | done | rfl | (simp only [List.length_drop, List.length_take]; rfl)) ?_; (with_reducible refine (spec_l1Set.calls a0 7 t108 _ A9.out).mono ?_); rintro e w' ⟨rfl, ⟨nd, rfl⟩⟩; refine ⟨_, rfl, ?_⟩) | ((with_reducible refine gate_callee (f := 42) rfl ?_); refine goesL_ (some 31) rfl rfl Tryd.func42 (by kernel_rfl) rfl #[.int .i64 a0, .int .i64 4] rfl (by (try simp only [List.map_toArray, List.map_cons, List.map_nil]); first | done | rfl | (simp only [List.length_drop, List.length_take]; rfl)) ?_; (with_reducible refine (spec_l1Set.calls a0 4 t109 _ A10.out).mono ?_); rintro e w' ⟨rfl, ⟨nd, rfl⟩⟩; refine ⟨_, rfl, ?_⟩) | ((with_reducible refine gate_callee (f := 42) rfl ?_); refine goesL_ (some 33) rfl rfl Tryd.func42 (by kernel_rfl) rfl #[.int .i64 a0, .int .i64 5] rfl (by (try simp only [List.map_toArray, List.map_cons, List.map_nil]); first | done | rfl | (simp only [List.length_drop, List.length_take]; rfl)) ?_; (with_reducible refine (spec_l1Set.calls a0 5 t110 _ A11.out).mono ?_); rintro e w' ⟨rfl, ⟨nd, rfl⟩⟩; refine ⟨_, rfl, ?_⟩) | ((with_reducible refine gate_callee (f := 42) rfl ?_); refine goesL_ (some 36) rfl rfl Tryd.func42 (by kernel_rfl) rfl #[.int .i64 a0, .int .i64 6] rfl (by (try simp only [List.map_toArray, List.map_cons, List.map_nil]); first | done | rfl | (simp only [List.length_drop, List.length_take]; rfl)) ?_; (with_reducible refine (spec_l1Set.calls a0 6 t111 _ A12.out).mono ?_); rintro e w' ⟨rfl, ⟨nd, rfl⟩⟩; refine ⟨_, rfl, ?_⟩) | ((with_reducible refine gate_callee (f := 42) rfl ?_); refine goesL_ (some 39) rfl rfl Tryd.func42 (by kernel_rfl) rfl #[.int .i64 a0, .int .i64 7] rfl (by (try simp only [List.map_toArray, List.map_cons, List.map_nil]); first | done | rfl | (simp only [List.length_drop, List.length_take]; rfl)) ?_; (with_reducible refine (spec_l1Set.calls a0 7 t112 _ A13.out).mono ?_); rintro e w' ⟨rfl, ⟨nd, rfl⟩⟩; refine ⟨_, rfl, ?_⟩))
  go_ret
  exact ⟨by first | rfl | (simp; done) | (simp [*]; done), by repeat (first | exact Drawn0.refl _ | apply Drawn0.step)⟩

/-! ### spec_l1Four: function 29 -/
def spec_l1Four.f (a0 : Int) : Option (Int) := (spec_l1Set.f a0 3).bind fun t113 => ((spec_l1Set.f a0 5).bind fun t114 => ((spec_l1Set.f a0 6).bind fun t115 => ((spec_l1Set.f a0 7).bind fun t116 => (some (wrap64 ((wrap64 ((wrap64 ((wrap64 (8 * t113)) + (wrap64 (4 * t114)))) + (wrap64 (2 * t115)))) + t116))))))
set_option maxHeartbeats 8000000 in
set_option maxRecDepth 100000 in
theorem spec_l1Four.calls (a0 : Int) (r : Int) (w : World) (h : spec_l1Four.f a0 = some r) :
    Calls Tryd.prog 29 #[.int .i64 a0] w fun e w' => e = .returned (.int .i64 r) ∧ Drawn0 w w' := by
  have H : ((spec_l1Set.f a0 3).bind fun t113 => ((spec_l1Set.f a0 5).bind fun t114 => ((spec_l1Set.f a0 6).bind fun t115 => ((spec_l1Set.f a0 7).bind fun t116 => (some (wrap64 ((wrap64 ((wrap64 ((wrap64 (8 * t113)) + (wrap64 (4 * t114)))) + (wrap64 (2 * t115)))) + t116))))))) = some r := h
  clear h
  replace H := Option.bind_eq_some_iff.mp H
  obtain ⟨t113, A20, H⟩ := H
  replace H : ((spec_l1Set.f a0 5).bind fun t114 => ((spec_l1Set.f a0 6).bind fun t115 => ((spec_l1Set.f a0 7).bind fun t116 => (some (wrap64 ((wrap64 ((wrap64 ((wrap64 (8 * t113)) + (wrap64 (4 * t114)))) + (wrap64 (2 * t115)))) + t116)))))) = some r := H
  have A2 := Aside0.mk A20
  clear A20
  replace H := Option.bind_eq_some_iff.mp H
  obtain ⟨t114, A30, H⟩ := H
  replace H : ((spec_l1Set.f a0 6).bind fun t115 => ((spec_l1Set.f a0 7).bind fun t116 => (some (wrap64 ((wrap64 ((wrap64 ((wrap64 (8 * t113)) + (wrap64 (4 * t114)))) + (wrap64 (2 * t115)))) + t116))))) = some r := H
  have A3 := Aside0.mk A30
  clear A30
  replace H := Option.bind_eq_some_iff.mp H
  obtain ⟨t115, A40, H⟩ := H
  replace H : ((spec_l1Set.f a0 7).bind fun t116 => (some (wrap64 ((wrap64 ((wrap64 ((wrap64 (8 * t113)) + (wrap64 (4 * t114)))) + (wrap64 (2 * t115)))) + t116)))) = some r := H
  have A4 := Aside0.mk A40
  clear A40
  replace H := Option.bind_eq_some_iff.mp H
  obtain ⟨t116, A50, H⟩ := H
  replace H : (some (wrap64 ((wrap64 ((wrap64 ((wrap64 (8 * t113)) + (wrap64 (4 * t114)))) + (wrap64 (2 * t115)))) + t116))) = some r := H
  have A5 := Aside0.mk A50
  clear A50
  obtain rfl := Option.some.inj H
  go_enter Tryd.func29, Tryd.ntmps29
  go_wp2_with (first | ((with_reducible refine gate_callee (f := 42) rfl ?_); refine goesL_ (some 4) rfl rfl Tryd.func42 (by kernel_rfl) rfl #[.int .i64 a0, .int .i64 3] rfl (by (try simp only [List.map_toArray, List.map_cons, List.map_nil]); first | done | rfl | (simp only [List.length_drop, List.length_take]; rfl)) ?_; (with_reducible refine (spec_l1Set.calls a0 3 t113 _ A2.out).mono ?_); rintro e w' ⟨rfl, ⟨nd, rfl⟩⟩; refine ⟨_, rfl, ?_⟩) | ((with_reducible refine gate_callee (f := 42) rfl ?_); refine goesL_ (some 7) rfl rfl Tryd.func42 (by kernel_rfl) rfl #[.int .i64 a0, .int .i64 5] rfl (by (try simp only [List.map_toArray, List.map_cons, List.map_nil]); first | done | rfl | (simp only [List.length_drop, List.length_take]; rfl)) ?_; (with_reducible refine (spec_l1Set.calls a0 5 t114 _ A3.out).mono ?_); rintro e w' ⟨rfl, ⟨nd, rfl⟩⟩; refine ⟨_, rfl, ?_⟩) | ((with_reducible refine gate_callee (f := 42) rfl ?_); refine goesL_ (some 11) rfl rfl Tryd.func42 (by kernel_rfl) rfl #[.int .i64 a0, .int .i64 6] rfl (by (try simp only [List.map_toArray, List.map_cons, List.map_nil]); first | done | rfl | (simp only [List.length_drop, List.length_take]; rfl)) ?_; (with_reducible refine (spec_l1Set.calls a0 6 t115 _ A4.out).mono ?_); rintro e w' ⟨rfl, ⟨nd, rfl⟩⟩; refine ⟨_, rfl, ?_⟩) | ((with_reducible refine gate_callee (f := 42) rfl ?_); refine goesL_ (some 15) rfl rfl Tryd.func42 (by kernel_rfl) rfl #[.int .i64 a0, .int .i64 7] rfl (by (try simp only [List.map_toArray, List.map_cons, List.map_nil]); first | done | rfl | (simp only [List.length_drop, List.length_take]; rfl)) ?_; (with_reducible refine (spec_l1Set.calls a0 7 t116 _ A5.out).mono ?_); rintro e w' ⟨rfl, ⟨nd, rfl⟩⟩; refine ⟨_, rfl, ?_⟩))
  go_ret
  exact ⟨by first | rfl | (simp; done) | (simp [*]; done), by repeat (first | exact Drawn0.refl _ | apply Drawn0.step)⟩

/-! ### spec_EncodeNibble: function 11 -/
def spec_EncodeNibble.l0 : Nat → Int → Int → Option (Int)
  | 0, _, _ => none
  | k + 1, x0, x3 => if x3 < 128 then ((spec_l1Fault.f x3).bind fun t117 => (if t117 = 0 then ((spec_l1Four.f x3).bind fun t118 => (if t118 = x0 then (some x3) else (spec_EncodeNibble.l0 k x0 (wrap64 (x3 + 1))))) else (spec_EncodeNibble.l0 k x0 (wrap64 (x3 + 1))))) else (some (-1))
def spec_EncodeNibble.f (k : Nat) (a0 : Int) : Option (Int) := spec_EncodeNibble.l0 k a0 0
theorem spec_EncodeNibble.mono_l : ∀ k, (∀ y0 y1, LeO (spec_EncodeNibble.l0 k y0 y1) (spec_EncodeNibble.l0 (k + 1) y0 y1))
  | 0 => fun _ _ r h => by simp [spec_EncodeNibble.l0] at h
  | k + 1 => by
    have ih0 := spec_EncodeNibble.mono_l k
    · intro y0 y1
      unfold spec_EncodeNibble.l0
      repeat' first
      | (with_reducible exact ih0 _ _)
      | (with_reducible exact LeO.refl _)
      | (with_reducible exact LeO.none _)
      | (with_reducible refine LeO.ite ?_ ?_)
      | (with_reducible refine LeO.bind ?_ (fun _ => ?_))
      | exact ih0 _ _
      | exact LeO.none _
      | refine LeO.ite ?_ ?_
      | refine LeO.bind ?_ (fun _ => ?_)
theorem spec_EncodeNibble.mono : ∀ a0 k, LeO (spec_EncodeNibble.f k a0) (spec_EncodeNibble.f (k + 1) a0) := by
  intro a0 k
  have ih0 := spec_EncodeNibble.mono_l k
  unfold spec_EncodeNibble.f
  repeat' first
      | (with_reducible exact ih0 _ _)
      | (with_reducible exact LeO.refl _)
      | (with_reducible exact LeO.none _)
      | (with_reducible refine LeO.ite ?_ ?_)
      | (with_reducible refine LeO.bind ?_ (fun _ => ?_))
      | exact ih0 _ _
      | exact LeO.none _
      | refine LeO.ite ?_ ?_
      | refine LeO.bind ?_ (fun _ => ?_)
set_option maxHeartbeats 8000000 in
set_option maxRecDepth 100000 in
theorem spec_EncodeNibble.calls (k : Nat) (a0 : Int) (r : Int) (w : World) (h : spec_EncodeNibble.f k a0 = some r) :
    Calls Tryd.prog 11 #[.int .i64 a0] w fun e w' => e = .returned (.int .i64 r) ∧ Drawn0 w w' := by
  have H : (spec_EncodeNibble.l0 k a0 0) = some r := h
  clear h
  have H' := Aside0.mk H
  clear H
  go_enter Tryd.func11, Tryd.ntmps11
  go_wp2
  go_loopg [3] k (fun kq v3 w' => ∃ (x3_1 : Int), v3 = .int .i64 x3_1 ∧ Aside0 (spec_EncodeNibble.l0 kq a0 x3_1 = some r) ∧ Aside0 (kq ≤ k) ∧ Drawn0 w w')
  case atStart => exact ⟨(0), (by first | rfl | (simp; done) | (simp [*]; done)), H', ⟨Nat.le_refl _⟩, by repeat (first | exact Drawn0.refl _ | apply Drawn0.step)⟩
  case round =>
    clear H'
    try clear c1
    obtain ⟨x3_1, rfl, HA, HK1, ⟨m1, rfl⟩⟩ := hrel
    cases gk with
    | zero => exact absurd HA.out (by simp [spec_EncodeNibble.l0])
    | succ k1 =>
      have H := HA.out
      clear HA
      simp only [spec_EncodeNibble.l0] at H
      by_cases c2 : x3_1 < 128
      · rw [if_pos c2] at H
        have c2b0 : decide (x3_1 < 128) = true := decide_eq_true c2
        clear c2
        replace H := Option.bind_eq_some_iff.mp H
        obtain ⟨t117, A30, H⟩ := H
        replace H : (if t117 = 0 then ((spec_l1Four.f x3_1).bind fun t118 => (if t118 = a0 then (some x3_1) else (spec_EncodeNibble.l0 k1 a0 (wrap64 (x3_1 + 1))))) else (spec_EncodeNibble.l0 k1 a0 (wrap64 (x3_1 + 1)))) = some r := H
        have A3 := Aside0.mk A30
        clear A30
        by_cases c4 : t117 = 0
        · rw [if_pos c4] at H
          have c4b0 : (t117 == 0) = true := beq_iff_eq.mpr c4
          have c4b1 : (t117 != 0) = false := bne_eq_false_iff_eq.mpr c4
          clear c4
          replace H := Option.bind_eq_some_iff.mp H
          obtain ⟨t118, A50, H⟩ := H
          replace H : (if t118 = a0 then (some x3_1) else (spec_EncodeNibble.l0 k1 a0 (wrap64 (x3_1 + 1)))) = some r := H
          have A5 := Aside0.mk A50
          clear A50
          by_cases c6 : t118 = a0
          · rw [if_pos c6] at H
            have c6b0 : (t118 == a0) = true := beq_iff_eq.mpr c6
            have c6b1 : (t118 != a0) = false := bne_eq_false_iff_eq.mpr c6
            clear c6
            obtain rfl := Option.some.inj H
            go_wp2_with (first | ((with_reducible refine gate_callee (f := 28) rfl ?_); refine goesL_ (some 9) rfl rfl Tryd.func28 (by kernel_rfl) rfl #[.int .i64 x3_1] rfl (by (try simp only [List.map_toArray, List.map_cons, List.map_nil]); first | done | rfl | (simp only [List.length_drop, List.length_take]; rfl)) ?_; (with_reducible refine (spec_l1Fault.calls x3_1 t117 _ A3.out).mono ?_); rintro e w' ⟨rfl, ⟨nd, rfl⟩⟩; refine ⟨_, rfl, ?_⟩) | (go_at_call 29; (with_reducible refine (spec_l1Four.calls x3_1 t118 _ A5.out).mono ?_); rintro e w' ⟨rfl, ⟨nd, rfl⟩⟩))
            go_ret
            exact ⟨by first | rfl | (simp; done) | (simp [*]; done), by repeat (first | exact Drawn0.refl _ | apply Drawn0.step)⟩
          · rw [if_neg c6] at H
            have c6b0 : (t118 == a0) = false := beq_eq_false_iff_ne.mpr c6
            have c6b1 : (t118 != a0) = true := bne_iff_ne.mpr c6
            have H' := Aside0.mk H
            clear H
            go_wp2_with (first | ((with_reducible refine gate_callee (f := 28) rfl ?_); refine goesL_ (some 9) rfl rfl Tryd.func28 (by kernel_rfl) rfl #[.int .i64 x3_1] rfl (by (try simp only [List.map_toArray, List.map_cons, List.map_nil]); first | done | rfl | (simp only [List.length_drop, List.length_take]; rfl)) ?_; (with_reducible refine (spec_l1Fault.calls x3_1 t117 _ A3.out).mono ?_); rintro e w' ⟨rfl, ⟨nd, rfl⟩⟩; refine ⟨_, rfl, ?_⟩) | (go_at_call 29; (with_reducible refine (spec_l1Four.calls x3_1 t118 _ A5.out).mono ?_); rintro e w' ⟨rfl, ⟨nd, rfl⟩⟩))
            go_roundg k1
            case measure => have := HK1.out; omega
            case rel => exact ⟨(wrap64 (x3_1 + 1)), (by first | rfl | (simp; done) | (simp [*]; done)), H', ⟨by have := HK1.out; omega⟩, by repeat (first | exact Drawn0.refl _ | apply Drawn0.step)⟩
        · rw [if_neg c4] at H
          have c4b0 : (t117 == 0) = false := beq_eq_false_iff_ne.mpr c4
          have c4b1 : (t117 != 0) = true := bne_iff_ne.mpr c4
          have H' := Aside0.mk H
          clear H
          go_wp2_with (first | ((with_reducible refine gate_callee (f := 28) rfl ?_); refine goesL_ (some 9) rfl rfl Tryd.func28 (by kernel_rfl) rfl #[.int .i64 x3_1] rfl (by (try simp only [List.map_toArray, List.map_cons, List.map_nil]); first | done | rfl | (simp only [List.length_drop, List.length_take]; rfl)) ?_; (with_reducible refine (spec_l1Fault.calls x3_1 t117 _ A3.out).mono ?_); rintro e w' ⟨rfl, ⟨nd, rfl⟩⟩; refine ⟨_, rfl, ?_⟩))
          go_roundg k1
          case measure => have := HK1.out; omega
          case rel => exact ⟨(wrap64 (x3_1 + 1)), (by first | rfl | (simp; done) | (simp [*]; done)), H', ⟨by have := HK1.out; omega⟩, by repeat (first | exact Drawn0.refl _ | apply Drawn0.step)⟩
      · rw [if_neg c2] at H
        have c2b0 : decide (x3_1 < 128) = false := decide_eq_false c2
        clear c2
        obtain rfl := Option.some.inj H
        go_wp2
        go_ret
        exact ⟨by first | rfl | (simp; done) | (simp [*]; done), by repeat (first | exact Drawn0.refl _ | apply Drawn0.step)⟩

/-! ### spec_l1Data: function 35 -/
def spec_l1Data.f (l0 : List Int) : Option (Bool) := some (decide ((l0.length : Int) ≤ 600))
set_option maxHeartbeats 8000000 in
set_option maxRecDepth 100000 in
theorem spec_l1Data.calls (A0 : Option Addr) (c0 : Nat) (l0 : List Int) (r : Bool) (w : World) (hr0 : Kd.C (Kd.int .u8) w A0 l0.length l0) (hc0 : l0.length ≤ c0) (h : spec_l1Data.f l0 = some r) :
    Calls Tryd.prog 35 #[.slice A0 l0.length c0] w fun e w' => e = .returned (.bool r) ∧ Drawn0 w w' := by
  have HR0 := Aside0.mk hr0
  have HC0 := Aside0.mk hc0
  clear hr0 hc0
  have H : (some (decide ((l0.length : Int) ≤ 600))) = some r := h
  clear h
  obtain rfl := Option.some.inj H
  go_enter Tryd.func35, Tryd.ntmps35
  go_wp2
  go_ret
  exact ⟨by first | rfl | (simp; done) | (simp [*]; done), by repeat (first | exact Drawn0.refl _ | apply Drawn0.step)⟩

end Go.Proofs.YtpifogfnafogaaaDoor.PAll
