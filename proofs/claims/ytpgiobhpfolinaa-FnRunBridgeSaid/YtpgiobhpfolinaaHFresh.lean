import Derived.Test.YtpgiobhpfolinaaHandBase
import Derived.Test.YtpgiobhpfolinaaProg
import Derived.Laws.CopyOwn
import Derived.Deep.RegionLaw
set_option linter.unusedSimpArgs false
namespace Go.Proofs.Ytpgiobhpfolinaa.Base
open Go.RowKit Go.Proofs.YtpgiobhpfolinaaW.PrintWords
set_option maxHeartbeats 1000000 in
set_option maxRecDepth 100000 in
theorem mul64_calls (w : World) : Calls Try.prog 60 #[.int .u64 1, .int .u64 15] w fun e w' => e = .returned (.tuple #[.int .u64 0, .int .u64 15]) ∧ w = w' := by
  have b1 : Go.bits .and .u64 1 4294967295 = 1 := by decide +kernel
  have b2 : Go.bits .and .u64 15 4294967295 = 15 := by decide +kernel
  have b3 : Go.bits .and .u64 0 4294967295 = 0 := by decide +kernel
  go_enter Try.func60, Try.ntmps60
  go_wp2
  go_ret2
  exact ⟨rfl, rfl⟩
set_option maxHeartbeats 1000000 in
set_option maxRecDepth 100000 in
theorem mul_calls (w : World) : Calls Try.prog 56 #[.int .u64 1, .int .u64 15] w fun e w' => e = .returned (.tuple #[.int .u64 0, .int .u64 15]) ∧ w = w' := by
  go_enter Try.func56, Try.ntmps56
  go_wp2_with (go_at_call 60; refine (mul64_calls _).mono ?_; rintro e w' ⟨rfl, rfl⟩)
  go_ret2
  exact ⟨rfl, rfl⟩
/-- The first m places are -1, the others 0. -/
def part (m : Nat) : List Value := List.replicate m (.int .i64 (-1)) ++ List.replicate (15 - m) (.int .i64 0)
def minus (m : Nat) : List Value := List.replicate m (.int .i64 (-1))
theorem minus_one (m : Nat) : ∀ v ∈ minus m, v.oneCell' = true := by
  intro v hv
  rw [List.eq_of_mem_replicate hv]
  rfl
theorem minus_len (m : Nat) : (minus m).length = m := by simp [minus]
theorem minus_get (m j : Nat) (v : Value) (h : (minus m)[j]? = some v) : v = .int .i64 (-1) ∧ j < m := by
  unfold minus at h
  rw [List.getElem?_replicate] at h
  split at h
  · injection h with h
    exact ⟨h.symm, by assumption⟩
  · cases h
theorem part_get (m j : Nat) (h : j < m) : (part m).toArray[j]? = some (.int .i64 (-1)) := by
  rw [List.getElem?_toArray]
  unfold part
  rw [List.getElem?_append_left (by simpa using h), List.getElem?_replicate, if_pos h]
theorem part_len (m : Nat) (h : m ≤ 15) : (part m).length = 15 := by simp [part]; omega
theorem splice1 : splice (part 0) 0 (minus 1) = part 1 := rfl
theorem splice2 : splice (part 1) 1 (minus 1) = part 2 := rfl
theorem splice4 : splice (part 2) 2 (minus 2) = part 4 := rfl
theorem splice8 : splice (part 4) 4 (minus 4) = part 8 := rfl
theorem splice15 : splice (part 8) 8 (minus 7) = part 15 := rfl
set_option maxHeartbeats 2000000 in
set_option maxRecDepth 100000 in
theorem repeat_calls (b : Nat) (w : World) (hc : w.cell? ⟨b, 0, none⟩ = some (.int .i64 (-1))) :
    Calls Try.prog 46 #[.slice (some ⟨b, 0, none⟩) 1 1, .int .i64 15] w fun e w' => e = .returned (.slice (some ⟨w.heap.size, 0, none⟩) 15 15) ∧ w'.heap[w.heap.size]? = some (.cells (part 15).toArray 3 (0, 0)) ∧ Below w.heap.size w w' := by
  have hmk : ∀ w, (Instr.makeSlice 22 (.int .i64 15) (.int .i64 15)).run Try.prog w = .ok (.slice (some ⟨w.heap.size, 0, none⟩) 15 15) (w.alloc (.cells (part 0).toArray 3)) := fun _ => by kernel_rfl
  have hb := World.block_lt_of_cell? _ _ hc
  have hP := Aside0.mk (part_len 0 (by omega))
  go_enter Try.func46, Try.ntmps46
  have hszE : (Try.prog.info? 3).map (·.size) = some 1 := by kernel_rfl
  have hg0 : (w.alloc (.cells (part 0).toArray 3)).heap[w.heap.size]? = some (.cells (part 0).toArray 3 (0, 0)) := blk_new w _
  have hB0 : Below w.heap.size w (w.alloc (.cells (part 0).toArray 3)) := (Below.refl _ _).alloc (Nat.le_refl _) _
  have hcs : ∀ j v, (minus 1)[j]? = some v → (w.alloc (.cells (part 0).toArray 3)).cell? ((⟨b, 0, none⟩ : Addr).add j) = some v := by
    intro j v h
    obtain ⟨rfl, hj⟩ := minus_get _ _ _ h
    obtain rfl : j = 0 := by omega
    exact (World.cell?_alloc_lt _ _ _ hb).trans hc
  go_wp2_with (first | (go_at_call 56; refine (mul_calls _).mono ?_; rintro e w' ⟨rfl, rfl⟩) | (with_reducible refine wpList_copy_splice rfl (.tmp 31) (.tmp 32) 22 22 rfl 3 Try.underlying22 (by kernel_rfl) (some ⟨w.heap.size, 0, none⟩) (some ⟨b, 0, none⟩) 15 15 1 1 rfl rfl w.heap.size 0 (part 0) 3 hg0 (minus 1) rfl (fun _ => ⟨rfl, _, rfl, hcs⟩) (by decide) (minus_one 1) w.heap.size w hB0 (Nat.le_refl _) ?_; intro w2 HG2 hB2))
  go_loopw [8] (fun n wr => ∃ m : Nat, (m = 1 ∨ m = 2 ∨ m = 4 ∨ m = 8 ∨ m = 15) ∧ n = .int .i64 m ∧ Aside0 (wr.heap[w.heap.size]? = some (.cells (part m).toArray 3 (0, 0))) ∧ Below w.heap.size w wr) (fun n _ => 15 - (intOf n).toNat)
  case atStart => exact ⟨1, by omega, rfl, ⟨HG2⟩, hB2⟩
  case round =>
    obtain ⟨m, hm, rfl, hh, hbr⟩ := hrel
    rcases hm with rfl | rfl | rfl | rfl | rfl
    · have hg := hh.out
      have hcs : ∀ j v, (minus 1)[j]? = some v → wr.cell? ((⟨w.heap.size, 0, none⟩ : Addr).add j) = some v := by
        intro j v h
        obtain ⟨rfl, hj⟩ := minus_get _ _ _ h
        rw [add_plain, blk_cell hg]
        exact part_get 1 j (by omega)
      have hcd : ∀ j v, (minus 1)[j]? = some v → wr.drew.cell? ((⟨w.heap.size, 0, none⟩ : Addr).add j) = some v := hcs
      have hgd : wr.drew.heap[w.heap.size]? = some (.cells (part 1).toArray 3 (0, 0)) := hg
      have HGD := Aside0.mk hgd
      have HCD := Aside0.mk hcd
      clear hg hgd hcs hcd
      go_wp2
      go_region_law (refine step_copy_splice rfl (.tmp 41) (.tmp 44) 22 22 rfl 3 Try.underlying22 hszE (some ⟨w.heap.size, 1, none⟩) (some ⟨w.heap.size, 0, none⟩) 14 14 1 15 ?e1 ?e2 w.heap.size 1 (part 1) 3 HGD.out (minus 1) rfl (fun _ => ⟨rfl, _, rfl, HCD.out⟩) (by decide) (minus_one 1) w.heap.size w hbr.drew (Nat.le_refl _) ?_; (case e1 => (simp [Act.eval, Act.put]; done)); (case e2 => (simp [Act.eval, Act.put]; done)); intro w3 HG3 hB3; rw [minus_len])
      have hwr : IntKind.i64.wrap 2 = 2 := by decide
      have hwq : IntKind.i64.wrap (1 + ((minus 1).length : Int)) = 2 := by rw [minus_len]; decide
      go_wp2
      (try simp only [Act.put, List.setIfInBounds_toArray, List.set_cons_zero, List.set_cons_succ])
      go_roundw
      case rel =>
        (repeat apply Exists.intro)
        exact ⟨⟨2, by simp, by first | (simp [hwr]; done) | (simp [hwq]; done), ⟨HG3⟩, hB3⟩, rfl⟩
      case measure => first | (simp [intOf, hwr]; done) | (simp [intOf, hwq]; done)
    · have hg := hh.out
      have hcs : ∀ j v, (minus 2)[j]? = some v → wr.cell? ((⟨w.heap.size, 0, none⟩ : Addr).add j) = some v := by
        intro j v h
        obtain ⟨rfl, hj⟩ := minus_get _ _ _ h
        rw [add_plain, blk_cell hg]
        exact part_get 2 j (by omega)
      have hcd : ∀ j v, (minus 2)[j]? = some v → wr.drew.cell? ((⟨w.heap.size, 0, none⟩ : Addr).add j) = some v := hcs
      have hgd : wr.drew.heap[w.heap.size]? = some (.cells (part 2).toArray 3 (0, 0)) := hg
      have HGD := Aside0.mk hgd
      have HCD := Aside0.mk hcd
      clear hg hgd hcs hcd
      go_wp2
      go_region_law (refine step_copy_splice rfl (.tmp 41) (.tmp 44) 22 22 rfl 3 Try.underlying22 hszE (some ⟨w.heap.size, 2, none⟩) (some ⟨w.heap.size, 0, none⟩) 13 13 2 15 ?e1 ?e2 w.heap.size 2 (part 2) 3 HGD.out (minus 2) rfl (fun _ => ⟨rfl, _, rfl, HCD.out⟩) (by decide) (minus_one 2) w.heap.size w hbr.drew (Nat.le_refl _) ?_; (case e1 => (simp [Act.eval, Act.put]; done)); (case e2 => (simp [Act.eval, Act.put]; done)); intro w3 HG3 hB3; rw [minus_len])
      have hwr : IntKind.i64.wrap 4 = 4 := by decide
      have hwq : IntKind.i64.wrap (2 + ((minus 2).length : Int)) = 4 := by rw [minus_len]; decide
      go_wp2
      (try simp only [Act.put, List.setIfInBounds_toArray, List.set_cons_zero, List.set_cons_succ])
      go_roundw
      case rel =>
        (repeat apply Exists.intro)
        exact ⟨⟨4, by simp, by first | (simp [hwr]; done) | (simp [hwq]; done), ⟨HG3⟩, hB3⟩, rfl⟩
      case measure => first | (simp [intOf, hwr]; done) | (simp [intOf, hwq]; done)
    · have hg := hh.out
      have hcs : ∀ j v, (minus 4)[j]? = some v → wr.cell? ((⟨w.heap.size, 0, none⟩ : Addr).add j) = some v := by
        intro j v h
        obtain ⟨rfl, hj⟩ := minus_get _ _ _ h
        rw [add_plain, blk_cell hg]
        exact part_get 4 j (by omega)
      have hcd : ∀ j v, (minus 4)[j]? = some v → wr.drew.cell? ((⟨w.heap.size, 0, none⟩ : Addr).add j) = some v := hcs
      have hgd : wr.drew.heap[w.heap.size]? = some (.cells (part 4).toArray 3 (0, 0)) := hg
      have HGD := Aside0.mk hgd
      have HCD := Aside0.mk hcd
      clear hg hgd hcs hcd
      go_wp2
      go_region_law (refine step_copy_splice rfl (.tmp 41) (.tmp 44) 22 22 rfl 3 Try.underlying22 hszE (some ⟨w.heap.size, 4, none⟩) (some ⟨w.heap.size, 0, none⟩) 11 11 4 15 ?e1 ?e2 w.heap.size 4 (part 4) 3 HGD.out (minus 4) rfl (fun _ => ⟨rfl, _, rfl, HCD.out⟩) (by decide) (minus_one 4) w.heap.size w hbr.drew (Nat.le_refl _) ?_; (case e1 => (simp [Act.eval, Act.put]; done)); (case e2 => (simp [Act.eval, Act.put]; done)); intro w3 HG3 hB3; rw [minus_len])
      have hwr : IntKind.i64.wrap 8 = 8 := by decide
      have hwq : IntKind.i64.wrap (4 + ((minus 4).length : Int)) = 8 := by rw [minus_len]; decide
      go_wp2
      (try simp only [Act.put, List.setIfInBounds_toArray, List.set_cons_zero, List.set_cons_succ])
      go_roundw
      case rel =>
        (repeat apply Exists.intro)
        exact ⟨⟨8, by simp, by first | (simp [hwr]; done) | (simp [hwq]; done), ⟨HG3⟩, hB3⟩, rfl⟩
      case measure => first | (simp [intOf, hwr]; done) | (simp [intOf, hwq]; done)
    · have hg := hh.out
      have hcs : ∀ j v, (minus 7)[j]? = some v → wr.cell? ((⟨w.heap.size, 0, none⟩ : Addr).add j) = some v := by
        intro j v h
        obtain ⟨rfl, hj⟩ := minus_get _ _ _ h
        rw [add_plain, blk_cell hg]
        exact part_get 8 j (by omega)
      have hcd : ∀ j v, (minus 7)[j]? = some v → wr.drew.cell? ((⟨w.heap.size, 0, none⟩ : Addr).add j) = some v := hcs
      have hgd : wr.drew.heap[w.heap.size]? = some (.cells (part 8).toArray 3 (0, 0)) := hg
      have HGD := Aside0.mk hgd
      have HCD := Aside0.mk hcd
      clear hg hgd hcs hcd
      go_wp2
      go_region_law (refine step_copy_splice rfl (.tmp 41) (.tmp 44) 22 22 rfl 3 Try.underlying22 hszE (some ⟨w.heap.size, 8, none⟩) (some ⟨w.heap.size, 0, none⟩) 7 7 8 15 ?e1 ?e2 w.heap.size 8 (part 8) 3 HGD.out (minus 7) rfl (fun _ => ⟨rfl, _, rfl, HCD.out⟩) (by decide) (minus_one 7) w.heap.size w hbr.drew (Nat.le_refl _) ?_; (case e1 => (simp [Act.eval, Act.put]; done)); (case e2 => (simp [Act.eval, Act.put]; done)); intro w3 HG3 hB3; rw [minus_len])
      have hwr : IntKind.i64.wrap 15 = 15 := by decide
      have hwq : IntKind.i64.wrap (8 + ((minus 7).length : Int)) = 15 := by rw [minus_len]; decide
      go_wp2
      (try simp only [Act.put, List.setIfInBounds_toArray, List.set_cons_zero, List.set_cons_succ])
      go_roundw
      case rel =>
        (repeat apply Exists.intro)
        exact ⟨⟨15, by simp, by first | (simp [hwr]; done) | (simp [hwq]; done), ⟨HG3⟩, hB3⟩, rfl⟩
      case measure => first | (simp [intOf, hwr]; done) | (simp [intOf, hwq]; done)
    · go_wp2
      go_ret
      exact ⟨rfl, hh.out, hbr⟩
theorem fresh_own (w' : World) (base g : Nat) (hb : base ≤ g) (h : w'.heap[g]? = some (.cells (part 15).toArray 3 (0, 0))) : w'.ownsRow base 3 1 (.slice (some ⟨g, 0, none⟩) 15 15) 15 (encs (Value.int .i64) (List.replicate 15 (-1))) :=
  ⟨rfl, .inr ⟨g, 15, _, rfl, hb, h, Nat.le_refl _, by decide, rfl, rfl⟩⟩
set_option maxHeartbeats 1000000 in
set_option maxRecDepth 100000 in
theorem fresh_calls (w : World) : Calls Try.prog 20 #[] w fun e w' => ∃ v0_ : Value, e = .returned v0_ ∧ Kd.R (Kd.int .i64) 3 w' w.heap.size (fun _ => True) v0_ (List.replicate 15 (-1)) ∧ Below w.heap.size w w' := by
  have hcon := repeat_calls w.heap.size (w.alloc (.cells #[.int .i64 (-1)] 3)) (blk_cell (blk_new w (.cells #[.int .i64 (-1)] 3)) 0)
  rw [World.size_alloc] at hcon
  have hb0 := (Below.refl w.heap.size w).alloc (Nat.le_refl _) (.cells #[.int .i64 (-1)] 3)
  have HB := Aside0.mk hb0
  clear hb0
  go_enter Try.func20, Try.ntmps20
  go_wp2_with (go_at_call 46; refine hcon.mono ?_; rintro e w' ⟨rfl, hg, hb⟩)
  go_ret
  exact ⟨_, rfl, Kd.R_of_own (fresh_own w' w.heap.size _ (by omega) hg) (fun _ _ => trivial), HB.out.trans (hb.mono (by omega))⟩
end Go.Proofs.Ytpgiobhpfolinaa.Base
