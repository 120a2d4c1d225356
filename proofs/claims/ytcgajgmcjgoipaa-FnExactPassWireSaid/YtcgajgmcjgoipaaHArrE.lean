/-
  impl.ArrivalsOf, walked.
-/
import Derived.Test.YtcgajgmcjgoipaaHArrC
set_option linter.unusedSimpArgs false
namespace Go.Proofs.Ytcgajgmcjgoipaa.Stab
open Go.Shelf Go.RowKit Go.Lib Go.Sort Go.Proofs.YtcgajgmcjgoipaaW.PrintWords Go.Proofs.YtcgajgmcjgoipaaW.PrintLast Go.Proofs.YtcgajgmcjgoipaaW.PrintMore

theorem heap_drewN_ (W : World) (n : Nat) : (W.drewN n).heap = W.heap := rfl
theorem pushes_next (l : List Int) (k : Nat) (f : Int) (h : f = fateV l (k : Int)) : pushes l (k + 1) = pushes l k ++ pushF f k := by rw [pushes, ← h]

set_option maxHeartbeats 8000000 in
set_option maxRecDepth 100000 in
theorem arr_calls (A0 : Option Addr) (c0 : Nat) (l0 : List Int) (n : Nat) (hn : n ≤ 60) (w : World) (hr0 : Kd.C (Kd.int .i64) w A0 l0.length l0)
    (hcan : Calls Try.prog 59 #[.slice A0 l0.length c0, .int .i64 n] w fun e w' => e = .returned (.bool true) ∧ Below w.heap.size w w')
    (hfate : ∀ (k : Nat) (W : World), Kd.C (Kd.int .i64) W A0 l0.length l0 → Calls Try.prog 65 #[.slice A0 l0.length c0, .int .i64 k] W fun e w' => e = .returned (.int .i64 (fateV l0 k)) ∧ Drawn0 W w') :
    Calls Try.prog 30 #[.slice A0 l0.length c0, .int .i64 n] w fun e w' =>
      ∃ v0_ : Value, e = .returned v0_ ∧ Kd.R (Kd.int .i64) 3 w' w.heap.size (fun _ => True) v0_ (arr l0 n) ∧ Below w.heap.size w w' := by
  have HC := Aside0.mk hr0
  have HF := Aside0.mk hfate
  clear hr0 hfate
  obtain ⟨len, hlen⟩ : ∃ len, len = l0.length := ⟨_, rfl⟩
  have HL := Aside0.mk hlen
  rw [← hlen] at hcan ⊢
  clear hlen
  go_enter Try.func30, Try.ntmps30
  go_wp2_with (go_at_call 59; refine hcan.mono ?_; rintro e w1 ⟨rfl, hb0⟩; have HB0 := Aside0.mk hb0; clear hb0 hcan)
  go_loopg [5, 13] n (fun gg s5 s13 wr => ∃ (k : Nat) (v : Value), v = s5 ∧ k ≤ n ∧ n - k ≤ gg ∧ s13 = .int .i64 k ∧ Aside0 (kA.R 62 wr w.heap.size (fun _ => True) v (pushes l0 k)) ∧ Aside0 (Below w.heap.size w wr))
  case atStart => exact ⟨0, _, rfl, Nat.zero_le _, Nat.le_refl _, rfl, ⟨Kd.R_nil _ _ _ _ _⟩, HB0⟩
  case round =>
    clear HB0
    obtain ⟨k, v, rfl, hk, hg, rfl, HO, HB⟩ := hrel
    have hpl := pushes_len l0 k
    by_cases hlt : k < n
    · have HLN := Aside0.mk (show (pushes l0 k).length ≤ 120 by omega)
      clear hpl
      have hltz : (k : Int) < (n : Int) := by omega
      have hcf := HF.out k
      rw [← HL.out] at hcf
      obtain ⟨f, hf⟩ : ∃ f, f = fateV l0 (k : Int) := ⟨_, rfl⟩
      rw [← hf] at hcf
      have HFV := Aside0.mk (pushes_next l0 k f hf)
      clear hf
      have hCw : ∀ W, Below wr.heap.size wr W → Kd.C (Kd.int .i64) W A0 len l0 := fun W hb => by
        have := Kd.C_below (Kd.C_below HC.out HB.out) hb
        rwa [← HL.out] at this
      have HCW := Aside0.mk hCw
      clear hCw
      have HV := Aside0.mk (show some wr.heap.size ≠ v.ownBlock from fun e => by
        obtain ⟨inner, ho⟩ := Kd.R_own HO.out
        have := own_lt ho _ e.symm
        omega)
      by_cases f1 : f = 1
      · subst f1
        have HFC := Aside0.mk hcf
        clear hcf
        go_wp2_with (first | (go_at_call 65; refine (HFC.out _ (HCW.out _ ?sd)).mono ?_; (case sd => repeat (first | exact Below.refl _ _ | apply below_alloc)); rintro e w' ⟨rfl, ⟨nd, rfl⟩⟩))
        go_roundg (n - (k + 1))
        case measure => omega
        case rel => exact ⟨k + 1, v, rfl, by omega, Nat.le_refl _, by go_num, ⟨by rw [HFV.out]; simp only [pushF, if_true, List.append_nil]; exact Kd.R_drewN (Kd.R_alloc HO.out _) _⟩, ⟨pw_below_drewN (below_alloc HB.out _) _⟩⟩
      · by_cases f2 : f = 2
        · subst f2
          have HFC := Aside0.mk hcf
          clear hcf
          go_wp2_with (first | (go_at_call 65; refine (HFC.out _ (HCW.out _ ?sd)).mono ?_; (case sd => repeat (first | exact Below.refl _ _ | apply below_alloc)); rintro e w' ⟨rfl, ⟨nd, rfl⟩⟩) | ((with_reducible refine gate_builtin (b := .append) (xs := #[.tmp 27, .tmp 29]) rfl ?_); at_builtin; refine Kd.R_append kA (w0 := w) w.heap.size rfl (.tmp 27) (.tmp 29) 60 62 (.agg #[.int .i64 0, .int .i64 0]) 16 rfl Try.underlying60 info_arr rfl (by decide) (by omega) v (pushes l0 k) ((2 * (k : Int), (k : Int))) (encA ((2 * (k : Int), (k : Int)))) (fun _ => True) (fun _ => False) rfl (by first | rfl | (simp only [heap_drewN_, World.size_alloc, World.size_setCell]; rfl)) (kA_M.2 rfl) (fun _ hk => hk.elim) (fun _ _ => trivial) ?aO27 ?aB27 ?aS27 ?aL27 ?_; (case aO27 => (repeat (first | exact HO.out | apply Kd.R_drewN | apply Kd.R_alloc))); (case aB27 => repeat (first | exact HB.out | apply below_alloc | apply pw_below_drewN | apply below_drew1 | exact Below.refl _ _)); (case aS27 => exact below_size (by repeat (first | exact HB.out | apply below_alloc | apply pw_below_drewN | apply below_drew1 | exact Below.refl _ _))); (case aL27 => have := HLN.out; (try simp only [List.length_append, List.length_cons, List.length_nil]); omega); intro v1 w1 ho hb hg2 hat; have q1 : w1.cell? ⟨wr.heap.size, 0, none⟩ = some (.int .i64 (2 * (k : Int))) := hg2.cell (by simp) HV.out; have q2 : w1.cell? ⟨wr.heap.size, 1, none⟩ = some (.int .i64 (k : Int)) := hg2.cell (by simp) HV.out; have HO1 := Aside0.mk ho; have HB1 := Aside0.mk hb; clear ho hb hg2 hat) | ((with_reducible refine gate_builtin (b := .append) (xs := #[.tmp 37, .tmp 39]) rfl ?_); at_builtin; refine Kd.R_append kA (w0 := w) w.heap.size rfl (.tmp 37) (.tmp 39) 60 62 (.agg #[.int .i64 0, .int .i64 0]) 16 rfl Try.underlying60 info_arr rfl (by decide) (by omega) v1 (pushes l0 k ++ [(2 * (k : Int), (k : Int))]) ((2 * (k : Int), (k : Int))) (encA ((2 * (k : Int), (k : Int)))) (fun _ => True) (fun _ => False) rfl (by first | rfl | (simp only [heap_drewN_, World.size_alloc, World.size_setCell]; rfl)) (kA_M.2 rfl) (fun _ hk => hk.elim) (fun _ _ => trivial) ?aO37 ?aB37 ?aS37 ?aL37 ?_; (case aO37 => exact HO1.out); (case aB37 => repeat (first | exact HB1.out | apply below_alloc | apply pw_below_drewN | apply below_drew1 | exact Below.refl _ _)); (case aS37 => exact below_size (by repeat (first | exact HB1.out | apply below_alloc | apply pw_below_drewN | apply below_drew1 | exact Below.refl _ _))); (case aL37 => have := HLN.out; (try simp only [List.length_append, List.length_cons, List.length_nil]); omega); intro v2 w2 ho hb hg2 hat; have HO2 := Aside0.mk ho; have HB2 := Aside0.mk hb; clear ho hb hg2 hat))
          go_roundg (n - (k + 1))
          case measure => omega
          case rel => exact ⟨k + 1, v2, rfl, by omega, Nat.le_refl _, by go_num, ⟨by
            have := HO2.out
            rw [List.append_assoc] at this
            rw [HFV.out]
            exact this⟩, HB2⟩
        · by_cases f3 : f = 3
          · subst f3
            have HFC := Aside0.mk hcf
            clear hcf
            go_wp2_with (first | (go_at_call 65; refine (HFC.out _ (HCW.out _ ?sd)).mono ?_; (case sd => repeat (first | exact Below.refl _ _ | apply below_alloc)); rintro e w' ⟨rfl, ⟨nd, rfl⟩⟩) | ((with_reducible refine gate_builtin (b := .append) (xs := #[.tmp 37, .tmp 39]) rfl ?_); at_builtin; refine Kd.R_append kA (w0 := w) w.heap.size rfl (.tmp 37) (.tmp 39) 60 62 (.agg #[.int .i64 0, .int .i64 0]) 16 rfl Try.underlying60 info_arr rfl (by decide) (by omega) v (pushes l0 k) ((2 * (k : Int) + 3, (k : Int))) (encA ((2 * (k : Int) + 3, (k : Int)))) (fun _ => True) (fun _ => False) rfl (by first | rfl | (simp only [heap_drewN_, World.size_alloc, World.size_setCell]; rfl)) (kA_M.2 rfl) (fun _ hk => hk.elim) (fun _ _ => trivial) ?aO37 ?aB37 ?aS37 ?aL37 ?_; (case aO37 => exact R_box HO.out (by repeat (first | exact Below.refl _ _ | apply below_alloc | apply pw_below_drewN)) _ _ rfl _); (case aB37 => repeat (first | exact HB.out | refine below_set ?_ HB.out.size | apply below_alloc | apply pw_below_drewN | apply below_drew1)); (case aS37 => exact below_size (by repeat (first | exact HB.out | refine below_set ?_ HB.out.size | apply below_alloc | apply pw_below_drewN | apply below_drew1))); (case aL37 => have := HLN.out; (try simp only [List.length_append, List.length_cons, List.length_nil]); omega); intro v3 w3 ho hb hg2 hat; have HO3 := Aside0.mk ho; have HB3 := Aside0.mk hb; clear ho hb hg2 hat))
            go_roundg (n - (k + 1))
            case measure => omega
            case rel => exact ⟨k + 1, v3, rfl, by omega, Nat.le_refl _, by go_num, ⟨by rw [HFV.out]; exact HO3.out⟩, HB3⟩
          · have f1b : (f == 1) = false := beq_false_of_ne f1
            have f2b : (f == 2) = false := beq_false_of_ne f2
            have f3b : (f == 3) = false := beq_false_of_ne f3
            have HFC := Aside0.mk hcf
            have HNF := Aside0.mk (show pushF f k = [(2 * (k : Int), (k : Int))] by simp [pushF, f1, f2, f3])
            clear hcf
            go_wp2_with (first | (go_at_call 65; refine (HFC.out _ (HCW.out _ ?sd)).mono ?_; (case sd => repeat (first | exact Below.refl _ _ | apply below_alloc)); rintro e w' ⟨rfl, ⟨nd, rfl⟩⟩) | ((with_reducible refine gate_builtin (b := .append) (xs := #[.tmp 37, .tmp 39]) rfl ?_); at_builtin; refine Kd.R_append kA (w0 := w) w.heap.size rfl (.tmp 37) (.tmp 39) 60 62 (.agg #[.int .i64 0, .int .i64 0]) 16 rfl Try.underlying60 info_arr rfl (by decide) (by omega) v (pushes l0 k) ((2 * (k : Int), (k : Int))) (encA ((2 * (k : Int), (k : Int)))) (fun _ => True) (fun _ => False) rfl (by first | rfl | (simp only [heap_drewN_, World.size_alloc, World.size_setCell]; rfl)) (kA_M.2 rfl) (fun _ hk => hk.elim) (fun _ _ => trivial) ?aO37 ?aB37 ?aS37 ?aL37 ?_; (case aO37 => (repeat (first | exact HO.out | apply Kd.R_drewN | apply Kd.R_alloc))); (case aB37 => repeat (first | exact HB.out | apply below_alloc | apply pw_below_drewN | apply below_drew1 | exact Below.refl _ _)); (case aS37 => exact below_size (by repeat (first | exact HB.out | apply below_alloc | apply pw_below_drewN | apply below_drew1 | exact Below.refl _ _))); (case aL37 => have := HLN.out; (try simp only [List.length_append, List.length_cons, List.length_nil]); omega); intro v4 w4 ho hb hg2 hat; have HO4 := Aside0.mk ho; have HB4 := Aside0.mk hb; clear ho hb hg2 hat))
            go_roundg (n - (k + 1))
            case measure => omega
            case rel => exact ⟨k + 1, v4, rfl, by omega, Nat.le_refl _, by go_num, ⟨by rw [HFV.out, HNF.out]; exact HO4.out⟩, HB4⟩
    · have hltz : ¬ (k : Int) < (n : Int) := by omega
      obtain rfl : k = n := by omega
      clear hpl
      have hs := sortR HO.out (by have := pushes_len l0 k; omega)
      have hvb : ∀ b, v.ownBlock = some b → w.heap.size ≤ b := fun b e => by
        obtain ⟨inner, ho⟩ := Kd.R_own HO.out
        exact own_base ho _ e
      have HS := Aside0.mk hs
      have HVB := Aside0.mk hvb
      clear hs hvb
      go_wp2_with (go_at_call 69; refine HS.out.mono ?_; rintro e w2 ⟨rfl, ho, hg2⟩; have HO2 := Aside0.mk ho; have HB2 := Aside0.mk (HB.out.grown hg2 HB.out.size HVB.out); clear ho hg2)
      obtain ⟨A, c, rfl, hlc, hcr⟩ := Kd.R_reads HO2.out
      have hA : ∀ ad, A = some ad → ∃ g, ad = ⟨g, 0, none⟩ := fun ad e => by
        subst e
        obtain ⟨inner, _, ho⟩ := Kd.R_own HO2.out
        rcases ho with ⟨h, _⟩ | ⟨g, cap, cur, h, _⟩
        · cases h
        · injection h with h1 _ _
          injection h1 with h1
          exact ⟨g, h1⟩
      have hm := mappedA_calls A c _ w2 hcr hA (by rw [List.length_mergeSort]; have := pushes_len l0 k; omega)
      have HM := Aside0.mk hm
      clear hm hA hcr hlc
      go_wp2_with (go_at_call 73; refine HM.out.mono ?_; rintro e w3 ⟨v3, rfl, ho, hb⟩; have HO3 := Aside0.mk ho; have HB3 := Aside0.mk hb; clear ho hb)
      go_ret
      exact ⟨_, rfl, Kd.R_lower HO3.out HB2.out.size, below_then HB2.out HB2.out.size HB3.out⟩

end Go.Proofs.Ytcgajgmcjgoipaa.Stab
