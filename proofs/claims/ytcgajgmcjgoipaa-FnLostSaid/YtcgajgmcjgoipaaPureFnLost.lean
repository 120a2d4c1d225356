/- For all bytes drawn from the law FnLost answers true: as many messages arrive as are sent less the lost ones and more the doubled ones. No condition. -/
import Derived.Test.YtcgajgmcjgoipaaPAllx3
import Derived.Test.YtcgajgmcjgoipaaPAllx4
import Derived.Test.YtcgajgmcjgoipaaWireC
namespace Go.Proofs.Ytcgajgmcjgoipaa.Pure
open Go.RowKit Go.Proofs.Ytcgajgmcjgoipaa.PAll Go.Proofs.YtcgajgmcjgoipaaW.PrintWords Go.Proofs.YtcgajgmcjgoipaaW.PrintLast Go.Proofs.YtcgajgmcjgoipaaW.PrintMore Go.Proofs.Ytcgajgmcjgoipaa.Base

theorem lost_loop (l : List Int) (n : Nat) (hn : n ≤ 60) (h : FV l = true) (d : Nat) : ∀ i : Nat, i + d = n → Ev (fun k => laws_FnLost.l0 k l (n : Int) (Stab.fatN l 1 n) (Stab.fatN l 2 i) (n : Int) (i : Int)) true := by
  induction d with
  | zero =>
    intro i hi
    obtain rfl : i = n := by omega
    refine Ev.succ ?_
    simp only [laws_FnLost.l0]
    have h1 := Stab.fatN_range l 1 i
    have h2 := Stab.fatN_range l 2 i
    have h3 := Stab.pushes_count l i
    have h4 := Stab.arr_len l i
    rw [w64 (x := (i : Int) - Stab.fatN l 1 i) (by omega) (by omega), w64 (x := (i : Int) - Stab.fatN l 1 i + Stab.fatN l 2 i) (by omega) (by omega)]
    refine Ev.neg (by omega) (Ev.bindc (implArr l _) (Ev.eq (Ev.now _) ?_))
    unfold arrI
    rw [if_pos (sendI_of h (by omega)), Int.toNat_natCast, beq_iff_eq]
    omega
  | succ d ih =>
    intro i hi
    have h2 := Stab.fatN_range l 2 i
    have h1 := ih (i + 1) (by omega)
    simp only [Stab.fatN] at h1
    refine Ev.succ ?_
    simp only [laws_FnLost.l0]
    rw [succ_i i (by omega), w64 (x := Stab.fatN l 2 i + 1) (by omega) (by omega)]
    refine Ev.pos (by omega) (Ev.bindc (fateOf_in h (by omega)) ?_)
    by_cases hx : Stab.fateV l (i : Int) = 2
    · rw [if_pos hx] at h1
      exact Ev.pos hx h1
    · rw [if_neg hx, Int.add_zero] at h1
      exact Ev.neg hx h1
theorem FnLost : laws_FnLost.Pure := by
  intro l h1 h2 h3
  refine Ev.rounds ?_
  unfold laws_FnLost.f
  have hb := wf_bytes h3
  by_cases h : (l.length : Int) > 1048576
  · exact Ev.pos h (Ev.now _)
  · obtain ⟨b, n, g1, g2, g3, g4⟩ := drawArr_ev l hb
    have hd : Ev (fun k => spec_DrawLostIn.f k l) (b, n) := by
      unfold spec_DrawLostIn.f
      exact Ev.bind g4 (Ev.now _)
    refine Ev.neg h (Ev.bind hd (Ev.bind (implLost b n) (Ev.bind (specLost b n (by omega)) (Ev.pos rfl ?_))))
    refine Ev.succ ?_
    simp only [laws_FnLost.j0]
    by_cases hc : FV b = true ∧ 0 ≤ n ∧ n ≤ 60
    · obtain ⟨hv, h0, h60⟩ := hc
      obtain ⟨m, rfl⟩ := Int.eq_ofNat_of_zero_le h0
      have e : lostI b (m : Int) = Stab.fatN b 1 m := by
        unfold lostI
        rw [if_pos ⟨hv, h0, h60⟩, Int.toNat_natCast, lostN_fat]
      rw [e]
      have hr := Stab.fatN_range b 1 m
      exact Ev.neg (by simp; omega) (lost_loop b m (by omega) hv m 0 (by omega))
    · have e : lostI b n = -1 := if_neg hc
      rw [e]
      refine Ev.pos (by decide) (Ev.bind (specLost b n (by omega)) ?_)
      rw [e]
      exact Ev.pos rfl (Ev.eq (Ev.now _) (by decide))
end Go.Proofs.Ytcgajgmcjgoipaa.Pure
