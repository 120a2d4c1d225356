/- What packing a packet of a link, and unpacking it, answer; the draws of the laws on checks. -/
import Derived.Test.YtpecdgjddffhjaaPAllx7
import Derived.Test.YtpecdgjddffhjaaPAllx8
import Derived.Test.YtpecdgjddffhjaaPAllx10
import Derived.Test.YtpecdgjddffhjaaPAllx11
import Derived.Test.YtpecdgjddffhjaaPAllx17
import Derived.Test.YtpecdgjddffhjaaChkA
import Derived.Test.YtpecdgjddffhjaaFlip
namespace Go.Proofs.Ytpecdgjddffhjaa.Pure
open Go.RowKit Go.Proofs.Ytpecdgjddffhjaa.PAll Go.Proofs.YtpecdgjddffhjaaW.PrintWords Go.Proofs.YtpecdgjddffhjaaW.PrintLast Go.Proofs.Ytpecdgjddffhjaa.Base

theorem addI_len (l : List Int) : (addI l).1.length ≤ 600 := by
  unfold addI
  by_cases h : l.length + 2 ≤ 600
  · rw [if_pos h]
    show (withCrc l).length ≤ 600
    rw [withCrc_length]
    exact h
  · rw [if_neg h]
    simp
theorem addI_bytes (l : List Int) (hb : Bytes l) : Bytes (addI l).1 := by
  unfold addI
  by_cases h : l.length + 2 ≤ 600
  · rw [if_pos h]
    exact withCrc_bytes l hb
  · rw [if_neg h]
    intro x hx
    cases hx
theorem cutI_len (l : List Int) : (cutI l).1.length ≤ 600 := by
  unfold cutI
  by_cases h : good l
  · rw [if_pos h]
    show (l.take _).length ≤ 600
    have := h.1
    rw [List.length_take]
    omega
  · rw [if_neg h]
    simp
theorem cutI_bytes (l : List Int) (hb : Bytes l) : Bytes (cutI l).1 := by
  unfold cutI
  by_cases h : good l
  · rw [if_pos h]
    exact hb.take _
  · rw [if_neg h]
    intro x hx
    cases hx

/-! ### PackLink -/
def packI (kind seq : Int) (b : List Int) : List Int × Bool := if (1 ≤ kind ∧ kind ≤ 2) ∧ (0 ≤ seq ∧ seq ≤ 15) ∧ ¬ (kind = 2 ∧ 0 < b.length) then addI ([16 * kind + seq] ++ b) else ([], false)
theorem pack_head (kind seq : Int) (hk : 1 ≤ kind ∧ kind ≤ 2) (hs : 0 ≤ seq ∧ seq ≤ 15) : (wrap64 ((wrap64 (16 * kind)) + seq)) % 256 = 16 * kind + seq := by
  rw [w64 (x := 16 * kind) (by omega) (by omega), w64 (by omega) (by omega)]
  omega
theorem pack_bytes (kind seq : Int) (b : List Int) (hk : 1 ≤ kind ∧ kind ≤ 2) (hs : 0 ≤ seq ∧ seq ≤ 15) (hb : Bytes b) : Bytes ([16 * kind + seq] ++ b) := Bytes.append (fun x hx => by
  obtain rfl := List.mem_singleton.1 hx
  omega) hb
theorem implPack (kind seq : Int) (b : List Int) (hb : Bytes b) (hl : b.length ≤ 1100000) : Ev (fun k => impl_PackLink.f k kind seq b) (packI kind seq b) := by
  unfold impl_PackLink.f packI
  by_cases hk : 1 ≤ kind ∧ kind ≤ 2
  · refine Ev.bindc (within_eq kind _ _) (Ev.pos (decide_eq_true hk) ?_)
    by_cases hs : 0 ≤ seq ∧ seq ≤ 15
    · refine Ev.bindc (within_eq seq _ _) (Ev.pos (decide_eq_true hs) ?_)
      rw [pack_head kind seq hk hs]
      have hA : Ev (fun k => (some (([16 * kind + seq] : List Int) : List Int)).bind fun y => (if y.length + b.length < 140737488355328 then ((impl_AddCrc.f k (y ++ b)).bind fun bt => (some (bt.1, bt.2))) else (none))) (addI ([16 * kind + seq] ++ b)) :=
        Ev.bindc rfl (Ev.pos (by simp; omega) (Ev.bind (implAdd _ (pack_bytes kind seq b hk hs hb) (by simp; omega)) (Ev.now _)))
      by_cases h2 : kind = 2
      · refine Ev.pos h2 ?_
        by_cases h3 : (b.length : Int) > 0
        · rw [if_neg (fun h => h.2.2 ⟨h2, by omega⟩)]
          exact Ev.pos h3 (Ev.now _)
        · rw [if_pos ⟨hk, hs, fun h => h3 (by omega)⟩]
          exact Ev.neg h3 hA
      · rw [if_pos ⟨hk, hs, fun h => h2 h.1⟩]
        exact Ev.neg h2 hA
    · rw [if_neg (fun h => hs h.2.1)]
      exact Ev.bindc (within_eq seq _ _) (Ev.neg (by simpa using hs) (Ev.now _))
  · rw [if_neg (fun h => hk h.1)]
    exact Ev.bindc (within_eq kind _ _) (Ev.neg (by simpa using hk) (Ev.now _))
theorem specPack (kind seq : Int) (b : List Int) (hb : Bytes b) (hl : b.length ≤ 1100000) : Ev (fun k => spec_PackLink.f k kind seq b) (packI kind seq b) := by
  unfold spec_PackLink.f packI
  by_cases hk : 1 ≤ kind ∧ kind ≤ 2
  · refine Ev.bindc (l1In_eq kind _ _) (Ev.pos (decide_eq_true hk) ?_)
    by_cases hs : 0 ≤ seq ∧ seq ≤ 15
    · refine Ev.bindc (l1In_eq seq _ _) (Ev.pos (decide_eq_true hs) ?_)
      rw [pack_head kind seq hk hs]
      have hA : Ev (fun k => (some (([16 * kind + seq] : List Int) : List Int)).bind fun y => (if y.length + b.length < 140737488355328 then ((spec_AddCrc.f k (y ++ b)).bind fun bt => (some (bt.1, bt.2))) else (none))) (addI ([16 * kind + seq] ++ b)) :=
        Ev.bindc rfl (Ev.pos (by simp; omega) (Ev.bind (specAdd _ (pack_bytes kind seq b hk hs hb) (by simp; omega)) (Ev.now _)))
      by_cases h2 : kind = 2
      · refine Ev.pos h2 ?_
        by_cases h3 : (b.length : Int) > 0
        · rw [if_neg (fun h => h.2.2 ⟨h2, by omega⟩)]
          exact Ev.pos h3 (Ev.now _)
        · rw [if_pos ⟨hk, hs, fun h => h3 (by omega)⟩]
          exact Ev.neg h3 hA
      · rw [if_pos ⟨hk, hs, fun h => h2 h.1⟩]
        exact Ev.neg h2 hA
    · rw [if_neg (fun h => hs h.2.1)]
      exact Ev.bindc (l1In_eq seq _ _) (Ev.neg (by simpa using hs) (Ev.now _))
  · rw [if_neg (fun h => hk h.1)]
    exact Ev.bindc (l1In_eq kind _ _) (Ev.neg (by simpa using hk) (Ev.now _))
theorem packI_len (kind seq : Int) (b : List Int) : (packI kind seq b).1.length ≤ 600 := by
  unfold packI
  split
  · exact addI_len _
  · simp
theorem packI_bytes (kind seq : Int) (b : List Int) (hb : Bytes b) : Bytes (packI kind seq b).1 := by
  unfold packI
  split
  · rename_i h
    exact addI_bytes _ (pack_bytes kind seq b h.1 h.2.1 hb)
  · intro x hx
    cases hx

/-! ### UnpackLink -/
def openI (p : List Int) : Int × Int × List Int × Bool :=
  if 0 < p.length ∧ (1 ≤ rd p 0 / 16 ∧ rd p 0 / 16 ≤ 2) ∧ ¬ (rd p 0 / 16 = 2 ∧ 1 < p.length) then (rd p 0 / 16, rd p 0 % 16, p.drop 1, true) else (0, 0, [], false)
def unpackI (b : List Int) : Int × Int × List Int × Bool := if (cutI b).2 = true then openI (cutI b).1 else (0, 0, [], false)
theorem implUnpack_open (p : List Int) (hb : Bytes p) (hl : p.length ≤ 1100000) : Ev (fun k => impl_UnpackLink.j0 k p ((p.length : Int) == 0)) (openI p) := by
  refine Ev.step (f := fun _ => some (openI p)) (fun k => ?_) (Ev.now _)
  simp only [impl_UnpackLink.j0]
  unfold openI
  by_cases h0 : p.length = 0
  · rw [if_pos (by simp only [beq_iff_eq]; omega), if_neg (by omega)]
  · have hr := hb.at_ 0
    have e1 : wrap64 (rd p 0) = rd p 0 := w64 (by omega) (by omega)
    have e2 : wrap64 (Int.tdiv (rd p 0) 16) = rd p 0 / 16 := by
      rw [Int.tdiv_eq_ediv_of_nonneg hr.1]
      exact w64 (by omega) (by omega)
    have e3 : Int.tmod (rd p 0) 16 = rd p 0 % 16 := Int.tmod_eq_emod_of_nonneg hr.1
    rw [if_neg (by simp only [beq_iff_eq]; omega), if_pos (by omega), e1, e2, e3, within_eq, Option.bind_some]
    unfold bytes_Clone.f
    by_cases hk : 1 ≤ rd p 0 / 16 ∧ rd p 0 / 16 ≤ 2
    · rw [if_pos (decide_eq_true hk)]
      by_cases h2 : rd p 0 / 16 = 2
      · rw [if_pos h2]
        by_cases h3 : (p.length : Int) > 1
        · rw [if_pos h3, if_neg (fun h => h.2.2 ⟨h2, by omega⟩)]
        · rw [if_neg h3, if_pos (by omega), if_pos (by simp; omega), Option.bind_some, if_pos ⟨by omega, hk, fun h => h3 (by omega)⟩]
      · rw [if_neg h2, if_pos (by omega), if_pos (by simp; omega), Option.bind_some, if_pos ⟨by omega, hk, fun h => h2 h.1⟩]
    · rw [if_neg (by simpa using hk), if_neg (fun h => hk h.2.1)]
theorem implUnpack (b : List Int) (hb : Bytes b) : Ev (fun k => impl_UnpackLink.f k b) (unpackI b) := by
  unfold impl_UnpackLink.f unpackI
  refine Ev.bind (implCut b hb) ?_
  by_cases h : (cutI b).2 = true
  · rw [if_pos h]
    exact Ev.pos h (implUnpack_open _ (cutI_bytes b hb) (by have := cutI_len b; omega))
  · rw [if_neg h]
    refine Ev.neg h (Ev.step (f := fun _ => some (0, 0, [], false)) (fun k => ?_) (Ev.now _))
    simp only [impl_UnpackLink.j0]
    rw [if_pos trivial]

end Go.Proofs.Ytpecdgjddffhjaa.Pure
