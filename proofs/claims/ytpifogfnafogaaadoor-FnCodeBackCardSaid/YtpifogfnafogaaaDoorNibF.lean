/- The pure side of DecodeBytes: the reference's loop gives what the program's gives. -/
import Derived.Test.YtpifogfnafogaaaDoorPAllx5
import Derived.Test.YtpifogfnafogaaaDoorPAllx10
import Derived.Test.YtpifogfnafogaaaDoorNib
import Derived.Test.YtpifogfnafogaaaDoorHDec
namespace Go.Proofs.YtpifogfnafogaaaDoor.Pure
open Go.RowKit Go.Proofs.YtpifogfnafogaaaDoor.PAll Go.Proofs.YtpifogfnafogaaaDoorW.PrintWords Go.Proofs.YtpifogfnafogaaaDoorW.PrintLast Go.Proofs.YtpifogfnafogaaaDoorW.PrintMore Go.Proofs.YtpifogfnafogaaaDoor.Base
set_option maxRecDepth 100000

theorem any_hit (l : List Int) (i : Nat) (hi : i < l.length) (h : 127 < rd l (i : Int)) : l.any lowB = true := by
  refine List.any_eq_true.2 ⟨l[i], List.getElem_mem hi, ?_⟩
  have e : rd l (i : Int) = l[i] := by simp [rd, hi]
  rw [← e]
  exact decide_eq_true h
theorem any_miss (l : List Int) (h : ∀ i : Nat, i < l.length → rd l (i : Int) ≤ 127) : l.any lowB = false := by
  refine List.any_eq_false.2 fun x hx => ?_
  obtain ⟨i, hi, rfl⟩ := List.getElem_of_mem hx
  have e : rd l (i : Int) = l[i] := by simp [rd, hi]
  have := h i hi
  rw [e] at this
  simp [lowB]
  omega
theorem implDecB (l : List Int) (hb : Bytes l) : impl_DecodeBytes.f l = some (decB l) := by
  unfold impl_DecodeBytes.f
  rw [if_pos (List.all_eq_true.2 fun x hx => decide_eq_true (hb x hx).1)]
theorem dec_bad (y : Int) (h : 127 < y) : decN y = (-1, -1) := if_neg (by omega)
theorem dec_ok (y : Int) (h : 0 ≤ y ∧ y ≤ 127) : (0 ≤ (decN y).1 ∧ (decN y).1 ≤ 15) ∧ 0 ≤ (decN y).2 ∧ (decN y).2 ≤ 7 := by
  obtain ⟨m, rfl⟩ := fin7_of h
  exact dec_small m
def dl (l : List Int) (j : Nat) : List Int := (List.range j).map (decAt l)
def ts (l : List Int) (j : Nat) : Int := ((List.range j).map (trnAt l)).sum
theorem dl_succ (l : List Int) (j : Nat) : dl l (j + 1) = dl l j ++ [decAt l j] := by simp [dl, List.range_succ]
theorem ts_succ (l : List Int) (j : Nat) : ts l (j + 1) = ts l j + trnAt l j := by simp [ts, List.range_succ]
theorem dl_len (l : List Int) (j : Nat) : (dl l j).length = j := by simp [dl]
theorem specDecB_loop (l : List Int) (hb : Bytes l) (hl : l.length ≤ 1200) (N : Nat) (hN : l.length = 2 * N) (d : Nat) : ∀ j : Nat, j + d = N → (∀ i : Nat, i < 2 * j → rd l (i : Int) ≤ 127) → (0 ≤ ts l j ∧ ts l j ≤ 2 * j) →
    Ev (fun k => spec_DecodeBytes.l0 k l (dl l j) (ts l j) ((2 * j : Nat) : Int)) (decB l) := by
  induction d with
  | zero =>
    intro j hj hlow _
    obtain rfl : j = N := by omega
    have e : decB l = (dl l j, ts l j) := by
      unfold decB
      rw [if_pos ⟨by omega, hl, any_miss l (fun i hi => hlow i (by omega))⟩, show l.length / 2 = j by omega]
      rfl
    rw [e]
    refine Ev.succ ?_
    simp only [spec_DecodeBytes.l0]
    exact Ev.neg (by omega) (Ev.now _)
  | succ d ih =>
    intro j hj hlow hts
    have g0 := hb.at_ ((2 * j : Nat) : Int)
    have g1 := hb.at_ ((2 * j + 1 : Nat) : Int)
    have e1 : wrap64 (((2 * j : Nat) : Int) + 1) = ((2 * j + 1 : Nat) : Int) := by rw [w64 (by omega) (by omega)]; omega
    have e2 : wrap64 (((2 * j : Nat) : Int) + 2) = ((2 * (j + 1) : Nat) : Int) := by rw [w64 (by omega) (by omega)]; omega
    have w0 : wrap64 (rd l ((2 * j : Nat) : Int)) = rd l ((2 * j : Nat) : Int) := w64 (by omega) (by omega)
    have w1 : wrap64 (rd l ((2 * j + 1 : Nat) : Int)) = rd l ((2 * j + 1 : Nat) : Int) := w64 (by omega) (by omega)
    have hk : (dl l j).length < 140737488355328 := by rw [dl_len]; omega
    have bad : l.any lowB = true → decB l = ([], -1) := fun h => if_neg (fun h' => by rw [h] at h'; cases h'.2.2)
    refine Ev.succ ?_
    simp only [spec_DecodeBytes.l0]
    rw [e1, w0, w1]
    refine Ev.pos (by omega) (Ev.pos (by omega) (Ev.bindc (specDec _) (Ev.pos (by omega) (Ev.pos (by omega) (Ev.bindc (specDec _) ?_)))))
    have stop : l.any lowB = true → ∀ a b c d, Ev (fun k => spec_DecodeBytes.j2 k l (dl l j) (ts l j) ((2 * j : Nat) : Int) a b c d true) (decB l) := by
      intro h a b c d
      rw [bad h]
      refine Ev.succ ?_
      simp only [spec_DecodeBytes.j2]
      exact Ev.pos trivial (Ev.now _)
    by_cases hy0 : rd l ((2 * j : Nat) : Int) ≤ 127
    · by_cases hy1 : rd l ((2 * j + 1 : Nat) : Int) ≤ 127
      · have s0 := dec_ok _ ⟨g0.1, hy0⟩
        have s1 := dec_ok _ ⟨g1.1, hy1⟩
        have ht : trnAt l j = cut1 (decN (rd l ((2 * j : Nat) : Int))).2 + cut1 (decN (rd l ((2 * j + 1 : Nat) : Int))).2 := rfl
        have hd : decAt l j = 16 * (decN (rd l ((2 * j : Nat) : Int))).1 + (decN (rd l ((2 * j + 1 : Nat) : Int))).1 := rfl
        have c0 := cut_small s0.2
        have c1 := cut_small s1.2
        have h2 := ih (j + 1) (by omega) (fun i hi => by
          by_cases e : i = 2 * j
          · subst e; exact hy0
          · by_cases e' : i = 2 * j + 1
            · subst e'; exact hy1
            · exact hlow i (by omega)) (by rw [ts_succ]; omega)
        rw [dl_succ, ts_succ, hd, ht] at h2
        have k0 : ∀ o, 0 ≤ o → o ≤ 7 → cut1 o = if o > 0 then 1 else 0 := by
          intro o h h'
          unfold cut1
          split <;> split <;> omega
        rw [k0 _ s0.2.1 s0.2.2, k0 _ s1.2.1 s1.2.2] at h2
        refine Ev.neg (by omega) ?_
        rw [decide_eq_false (by omega)]
        refine Ev.succ ?_
        simp only [spec_DecodeBytes.j2]
        generalize decN (rd l ((2 * j : Nat) : Int)) = d0 at *
        generalize decN (rd l ((2 * j + 1 : Nat) : Int)) = d1 at *
        have e3 : (wrap64 ((wrap64 (16 * d0.1)) + d1.1)) % 256 = 16 * d0.1 + d1.1 := by
          rw [w64 (x := 16 * d0.1) (by omega) (by omega), w64 (by omega) (by omega)]
          omega
        have e5 : wrap64 (ts l j + 1) = ts l j + 1 := w64 (by omega) (by omega)
        have e6 : wrap64 (ts l j + 1 + 1) = ts l j + 1 + 1 := w64 (by omega) (by omega)
        rw [e3, e2, e5, e6]
        refine Ev.neg Bool.false_ne_true (Ev.pos hk (Ev.bindc rfl ?_))
        by_cases a0 : d0.2 > 0
        · rw [if_pos a0] at h2
          by_cases a1 : d1.2 > 0
          · rw [if_pos a1, ← Int.add_assoc] at h2
            exact Ev.pos a0 (Ev.pos a1 h2)
          · rw [if_neg a1, Int.add_zero] at h2
            exact Ev.pos a0 (Ev.neg a1 h2)
        · rw [if_neg a0, Int.zero_add] at h2
          by_cases a1 : d1.2 > 0
          · rw [if_pos a1] at h2
            exact Ev.neg a0 (Ev.pos a1 h2)
          · rw [if_neg a1, Int.add_zero] at h2
            exact Ev.neg a0 (Ev.neg a1 h2)
      · have hx := any_hit l (2 * j + 1) (by omega) (by omega)
        have b1 := dec_bad (rd l ((2 * j + 1 : Nat) : Int)) (by omega)
        have s0 := dec_ok _ ⟨g0.1, hy0⟩
        rw [b1]
        exact Ev.neg (by omega) (stop hx _ _ _ _)
    · have hx := any_hit l (2 * j) (by omega) (by omega)
      have b0 := dec_bad (rd l ((2 * j : Nat) : Int)) (by omega)
      rw [b0]
      exact Ev.pos (by decide) (stop hx _ _ _ _)
theorem specDecB (l : List Int) (hb : Bytes l) : Ev (fun k => spec_DecodeBytes.f k l) (decB l) := by
  unfold spec_DecodeBytes.f
  have out : ¬ (l.length % 2 = 0 ∧ l.length ≤ 1200) → Ev (fun k => spec_DecodeBytes.j0 k l true) (decB l) := by
    intro h
    rw [show decB l = ([], -1) from if_neg (fun h' => h ⟨h'.1, h'.2.1⟩)]
    refine Ev.succ ?_
    simp only [spec_DecodeBytes.j0]
    exact Ev.pos trivial (Ev.now _)
  by_cases h : l.length % 2 = 0
  · refine Ev.pos (by omega) ?_
    by_cases h2 : l.length ≤ 1200
    · rw [decide_eq_false (by omega)]
      refine Ev.succ ?_
      simp only [spec_DecodeBytes.j0]
      exact Ev.neg Bool.false_ne_true (specDecB_loop l hb h2 (l.length / 2) (by omega) (l.length / 2) 0 (by omega) (fun i hi => by omega) (by simp [ts]))
    · rw [decide_eq_true (by omega)]
      exact out (fun h' => h2 h'.2)
  · exact Ev.neg (by omega) (out (fun h' => h h'.1))
theorem decB_len (l : List Int) : (decB l).1.length ≤ 600 := by
  unfold decB
  split
  · rename_i h
    simp
    omega
  · simp
end Go.Proofs.YtpifogfnafogaaaDoor.Pure
