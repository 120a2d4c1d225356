/- The pure side of EncodeBytes: both loops give the two codes of each byte, one behind the other. -/
import Derived.Test.YtpifogfnafogaaaDoorPAllx1
import Derived.Test.YtpifogfnafogaaaDoorPAllx2
import Derived.Test.YtpifogfnafogaaaDoorPAllx3
import Derived.Test.YtpifogfnafogaaaDoorPAllx4
import Derived.Test.YtpifogfnafogaaaDoorNib
namespace Go.Proofs.YtpifogfnafogaaaDoor.Pure
open Go.RowKit Go.Proofs.YtpifogfnafogaaaDoor.PAll Go.Proofs.YtpifogfnafogaaaDoorW.PrintWords Go.Proofs.YtpifogfnafogaaaDoorW.PrintLast Go.Proofs.YtpifogfnafogaaaDoorW.PrintMore Go.Proofs.YtpifogfnafogaaaDoor.Base
set_option maxRecDepth 100000

theorem enc_range : ∀ m : Fin 16, 0 ≤ encN ((m.1 : Nat) : Int) ∧ encN ((m.1 : Nat) : Int) ≤ 127 := by decide +kernel
/-- The two codes of a byte. -/
def encTwo (x : Int) : List Int := [encN (x / 16), encN (x % 16)]
/-- The codes of the first m bytes. -/
def encL (l : List Int) : Nat → List Int
  | 0 => []
  | m + 1 => encL l m ++ encTwo (rd l (m : Int))
theorem encL_len (l : List Int) (m : Nat) : (encL l m).length = 2 * m := by
  induction m with
  | zero => rfl
  | succ m ih =>
    simp only [encL, encTwo, List.length_append, List.length_cons, List.length_nil, ih]
    omega
def encB (l : List Int) : List Int := if l.length ≤ 600 then encL l l.length else []
theorem encB_len (l : List Int) : (encB l).length ≤ 1200 := by
  unfold encB
  split
  · rw [encL_len]
    omega
  · simp
theorem halves : ∀ a, a < 256 → (wrap64 (Int.tdiv (wrap64 ((a : Nat) : Int)) 16) = ((a : Nat) : Int) / 16 ∧ Int.tmod (wrap64 ((a : Nat) : Int)) 16 = ((a : Nat) : Int) % 16) ∧ (wrap64 (((a : Nat) : Int) / 16) = ((a : Nat) : Int) / 16 ∧ wrap64 (Go.bits .and .u8 ((a : Nat) : Int) 15) = ((a : Nat) : Int) % 16) ∧
    encN (((a : Nat) : Int) / 16) % 256 = encN (((a : Nat) : Int) / 16) ∧ encN (((a : Nat) : Int) % 16) % 256 = encN (((a : Nat) : Int) % 16) := by decide +kernel
theorem specData (l : List Int) : spec_l1Data.f l = some (decide (l.length ≤ 600)) := by
  unfold spec_l1Data.f
  rw [show decide ((l.length : Int) ≤ 600) = decide (l.length ≤ 600) from decide_eq_decide.2 (by omega)]
theorem implData (l : List Int) : impl_isData.f l = some (decide (l.length ≤ 600)) := by
  unfold impl_isData.f
  rw [show decide ((l.length : Int) ≤ 600) = decide (l.length ≤ 600) from decide_eq_decide.2 (by omega)]
theorem specEncB_loop (l : List Int) (hb : Bytes l) (hl : l.length ≤ 600) (d : Nat) : ∀ i : Nat, i + d = l.length → Ev (fun k => spec_EncodeBytes.l0 k l (encL l i) (i : Int)) (encL l l.length) := by
  induction d with
  | zero =>
    intro i hi
    obtain rfl : i = l.length := by omega
    refine Ev.succ ?_
    simp only [spec_EncodeBytes.l0]
    refine Ev.neg (by omega) (Ev.succ ?_)
    simp only [spec_EncodeBytes.j1]
    exact Ev.neg Bool.false_ne_true (Ev.now _)
  | succ d ih =>
    intro i hi
    have h2 := ih (i + 1) (by omega)
    have hx := hb.at_ (i : Int)
    obtain ⟨a, ha⟩ := Int.eq_ofNat_of_zero_le hx.1
    obtain ⟨⟨g1, g2⟩, _, g5, g6⟩ := halves a (by omega)
    have e : encL l (i + 1) = encL l i ++ [encN ((a : Int) / 16) % 256, encN ((a : Int) % 16) % 256] := by
      rw [g5, g6]
      simp only [encL, encTwo, ha]
    have hk : (encL l i).length + 2 < 140737488355328 := by rw [encL_len]; omega
    rw [e, ← succ_i i (by omega)] at h2
    refine Ev.succ ?_
    simp only [spec_EncodeBytes.l0]
    refine Ev.pos (by omega) (Ev.bindc (specData l) (Ev.succ ?_))
    simp only [spec_EncodeBytes.j1, ha]
    rw [g1, g2]
    exact Ev.pos (decide_eq_true hl) (Ev.pos (by omega) (Ev.pos (by omega) (Ev.bind (specEnc _) (Ev.bind (specEnc _) (Ev.bindc rfl (Ev.pos hk h2))))))
theorem specEncB (l : List Int) (hb : Bytes l) : Ev (fun k => spec_EncodeBytes.f k l) (encB l) := by
  unfold spec_EncodeBytes.f
  by_cases h : l.length ≤ 600
  · exact Ev.eq (specEncB_loop l hb h l.length 0 (by omega)) (if_pos h).symm
  · refine Ev.eq (r := []) (Ev.succ ?_) (if_neg h).symm
    simp only [spec_EncodeBytes.l0]
    refine Ev.pos (by omega) (Ev.bindc (specData l) (Ev.succ ?_))
    simp only [spec_EncodeBytes.j1]
    exact Ev.neg (by simpa using h) (Ev.now _)
theorem implEncB_loop (l : List Int) (hb : Bytes l) (hl : l.length ≤ 600) (d : Nat) : ∀ i : Nat, i + d = l.length → Ev (fun k => impl_EncodeBytes.l0 k (encL l i) l (l.length : Int) (i : Int)) (encL l l.length) := by
  induction d with
  | zero =>
    intro i hi
    obtain rfl : i = l.length := by omega
    refine Ev.succ ?_
    simp only [impl_EncodeBytes.l0]
    exact Ev.neg (by omega) (Ev.now _)
  | succ d ih =>
    intro i hi
    have h2 := ih (i + 1) (by omega)
    have hx := hb.at_ (i : Int)
    obtain ⟨a, ha⟩ := Int.eq_ofNat_of_zero_le hx.1
    obtain ⟨_, ⟨g3, g4⟩, g5, g6⟩ := halves a (by omega)
    have e : encL l (i + 1) = encL l i ++ [encN ((a : Int) / 16) % 256, encN ((a : Int) % 16) % 256] := by
      rw [g5, g6]
      simp only [encL, encTwo, ha]
    have hk : (encL l i).length + 2 < 140737488355328 := by rw [encL_len]; omega
    rw [e, ← succ_i i (by omega)] at h2
    refine Ev.succ ?_
    simp only [impl_EncodeBytes.l0, ha]
    rw [g3, g4]
    exact Ev.pos (by omega) (Ev.pos (by omega) (Ev.pos (by omega) (Ev.bindc rfl (Ev.bindc rfl (Ev.bindc rfl (Ev.pos hk h2))))))
theorem implEncB (l : List Int) (hb : Bytes l) : Ev (fun k => impl_EncodeBytes.f k l) (encB l) := by
  unfold impl_EncodeBytes.f
  refine Ev.bindc (implData l) ?_
  by_cases h : l.length ≤ 600
  · exact Ev.pos (decide_eq_true h) (Ev.eq (implEncB_loop l hb h l.length 0 (by omega)) (if_pos h).symm)
  · exact Ev.neg (by simpa using h) (Ev.eq (Ev.now _) (if_neg h).symm)
end Go.Proofs.YtpifogfnafogaaaDoor.Pure
