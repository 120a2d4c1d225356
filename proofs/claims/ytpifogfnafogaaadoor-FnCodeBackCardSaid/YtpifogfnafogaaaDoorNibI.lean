/- FnCodeBack's own loop: one bit of each code is turned. -/
import Derived.Test.YtpifogfnafogaaaDoorPAllx7
import Derived.Test.YtpifogfnafogaaaDoorPAllx8
import Derived.Test.YtpifogfnafogaaaDoorNibG
import Derived.Test.YtpifogfnafogaaaDoorNibF
namespace Go.Proofs.YtpifogfnafogaaaDoor.Pure
open Go.RowKit Go.Proofs.YtpifogfnafogaaaDoor.PAll Go.Proofs.YtpifogfnafogaaaDoorW.PrintWords Go.Proofs.YtpifogfnafogaaaDoorW.PrintLast Go.Proofs.YtpifogfnafogaaaDoorW.PrintMore Go.Proofs.YtpifogfnafogaaaDoor.Base
set_option maxRecDepth 100000

theorem rd_setE (x : List Int) (i : Nat) (v : Int) (h : i < x.length) : rd (x.set i v) (i : Int) = v := by simp [rd, h]
theorem rd_setN (x : List Int) (i j : Nat) (v : Int) (h : i ≠ j) : rd (x.set i v) (j : Int) = rd x (j : Int) := by
  simp [rd, List.getD_eq_getElem?_getD, List.getElem?_set_ne h]
theorem bytes_of (l : List Int) (h : ∀ i : Nat, i < l.length → 0 ≤ rd l (i : Int) ∧ rd l (i : Int) < 256) : Bytes l := by
  intro x hx
  obtain ⟨i, hi, rfl⟩ := List.getElem_of_mem hx
  rw [← rd_get l i hi]
  exact h i hi
theorem encL_small (b : List Int) (hb : Bytes b) (i : Nat) (hi : i < 2 * b.length) : ∃ u : Fin 16, rd (encL b b.length) (i : Int) = encN ((u.1 : Nat) : Int) := by
  obtain ⟨u, v, eu, ev⟩ := half_fin (hb.at_ ((i / 2 : Nat) : Int))
  obtain ⟨g0, g1⟩ := encL_get b b.length (i / 2) (by omega)
  by_cases e : i % 2 = 0
  · exact ⟨u, by rw [show i = 2 * (i / 2) by omega, g0, eu]⟩
  · exact ⟨v, by rw [show i = 2 * (i / 2) + 1 by omega, g1, ev]⟩
theorem encL_bytes (b : List Int) (hb : Bytes b) : Bytes (encL b b.length) := by
  refine bytes_of _ fun i hi => ?_
  rw [encL_len] at hi
  obtain ⟨u, e⟩ := encL_small b hb i hi
  rw [e]
  have := enc_range u
  omega
theorem shl_tab : ∀ s : Fin 7, shl .u8 1 (((s.1 : Nat) : Int)) = 2 ^ s.1 := by decide +kernel
theorem drawB (l : List Int) (hl : Bytes l) : ∃ b, Bytes b ∧ b.length ≤ 601 ∧ Ev (fun k => spec_DrawEncodeBytes.f k l) b := by
  obtain ⟨s, hs, hb, ho⟩ := open_eq l
  obtain ⟨b, q, h1, h2, _, _, h5⟩ := draw_ev s 0 (hb hl) hs (by omega)
  refine ⟨b, h1, h2, ?_⟩
  unfold spec_DrawEncodeBytes.f
  exact Ev.bindc ho (Ev.bind h5 (Ev.now _))
theorem back_loop (b : List Int) (hb : Bytes b) (hl : b.length ≤ 600) (d : Nat) : ∀ (i : Nat) (x : List Int), i + d = 2 * b.length → x.length = 2 * b.length →
    (∀ j : Nat, j < i → rd x (j : Int) = Go.bits .xor .u8 (rd (encL b b.length) (j : Int)) (2 ^ ((j + b.length) % 7))) → (∀ j : Nat, i ≤ j → rd x (j : Int) = rd (encL b b.length) (j : Int)) →
    Ev (fun k => laws_FnCodeBack.l0 k b (encL b b.length) x ((2 * b.length : Nat) : Int) (i : Int)) true := by
  induction d with
  | zero =>
    intro i x hi hx h0 h1
    obtain rfl : i = 2 * b.length := by omega
    have hxt : ∀ j : Nat, j < x.length → rd x (j : Int) = Go.bits .xor .u8 (rd (encL b b.length) (j : Int)) (2 ^ ((j + b.length) % 7)) := fun j hj => h0 j (by omega)
    have hxb : Bytes x := by
      refine bytes_of _ fun j hj => ?_
      rw [hxt j hj]
      obtain ⟨u, e⟩ := encL_small b hb j (by omega)
      rw [e]
      have := back1 u ⟨(j + b.length) % 7, by omega⟩
      simp only at this
      omega
    have e1 := code_back b hb hl
    have e2 := turn_back b x hb hl hx (fun j => ⟨(j + b.length) % 7, by omega⟩) hxt
    have f1 := implDecB _ (encL_bytes b hb)
    have f2 := implDecB _ hxb
    rw [e1] at f1
    rw [e2] at f2
    refine Ev.succ ?_
    simp only [laws_FnCodeBack.l0]
    refine Ev.neg (by omega) (Ev.bindc f1 (Ev.bindc f2 (Ev.pos rfl (Ev.pos rfl (Ev.pos rfl (Ev.eq (Ev.now _) ?_))))))
    rw [encL_len]
    simp
  | succ d ih =>
    intro i x hi hx h0 h1
    have e1 : wrap64 ((i : Int) + (b.length : Int)) = ((i + b.length : Nat) : Int) := by rw [w64 (by omega) (by omega)]; omega
    have e2 : Int.tmod ((i + b.length : Nat) : Int) 7 = (((i + b.length) % 7 : Nat) : Int) := by
      rw [Int.tmod_eq_emod_of_nonneg (by omega)]
      omega
    have e3 := shl_tab ⟨(i + b.length) % 7, by omega⟩
    simp only at e3
    refine Ev.succ ?_
    simp only [laws_FnCodeBack.l0]
    rw [e1, e2, e3, succ_i i (by omega), Int.toNat_natCast]
    refine Ev.pos (by omega) (Ev.pos (by omega) (Ev.pos (by omega) (Ev.pos (by omega) ?_)))
    refine ih (i + 1) _ (by omega) (by rw [List.length_set]; exact hx) (fun j hj => ?_) (fun j hj => ?_)
    · by_cases e : j = i
      · subst e
        rw [rd_setE _ _ _ (by omega), h1 j (Nat.le_refl _)]
      · rw [rd_setN _ _ _ _ (by omega)]
        exact h0 j (by omega)
    · rw [rd_setN _ _ _ _ (by omega)]
      exact h1 j (by omega)
end Go.Proofs.YtpifogfnafogaaaDoor.Pure
