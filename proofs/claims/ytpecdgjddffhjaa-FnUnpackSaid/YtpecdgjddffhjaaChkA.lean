/- What the program's and the reference's CrcStep, CrcOf, AddCrc, CutCrc, SumOf and their kin answer, as plain functions of numbers and lists. -/
import Derived.Test.YtpecdgjddffhjaaPAllx2
import Derived.Test.YtpecdgjddffhjaaPAllx3
import Derived.Test.YtpecdgjddffhjaaPAllx4
import Derived.Test.YtpecdgjddffhjaaPAllx5
import Derived.Test.YtpecdgjddffhjaaPAllx6
import Derived.Test.YtpecdgjddffhjaaPAllx7
import Derived.Test.YtpecdgjddffhjaaPAllx10
import Derived.Test.YtpecdgjddffhjaaPAllx11
import Derived.Test.YtpecdgjddffhjaaLibB
import Derived.Test.YtpecdgjddffhjaaCrcMath
namespace Go.Proofs.Ytpecdgjddffhjaa.Pure
open Go.RowKit Go.Proofs.Ytpecdgjddffhjaa.PAll Go.Proofs.YtpecdgjddffhjaaW.PrintWords Go.Proofs.YtpecdgjddffhjaaW.PrintLast Go.Proofs.Ytpecdgjddffhjaa.Base

theorem l1In_eq (a b c : Int) : spec_l1In.f a b c = some (decide (b ≤ a ∧ a ≤ c)) := by
  unfold spec_l1In.f
  by_cases h : a ≥ b
  · rw [if_pos h]; simp [show b ≤ a from h]
  · rw [if_neg h]; simp; omega
theorem within_eq (a b c : Int) : impl_within.f a b c = some (decide (b ≤ a ∧ a ≤ c)) := by
  unfold impl_within.f
  by_cases h : b ≤ a
  · rw [if_pos h]; simp [h]
  · rw [if_neg h]; simp [h]
theorem l2Word_eq (a : Int) : spec_l2Word.f a = some (decide (0 ≤ a ∧ a ≤ 65535)) := by
  unfold spec_l2Word.f
  rw [l1In_eq]; rfl

/-! ### CrcStep -/
theorem wrapc (n : Nat) (h : n ≤ 9223372036854775807) : wrap64 (n : Int) = (n : Int) := w64 (by omega) (by omega)
theorem dbl (c : Nat) (hc : c < 65536) : wrap64 ((c : Int) * 2) = ((2 * c : Nat) : Int) := by rw [w64 (by omega) (by omega)]; omega
theorem sb_int (c : Nat) : (if (c : Int) / 32768 = 1 then Go.bits .xor .i64 ((2 * c % 65536 : Nat) : Int) 4129 else ((2 * c % 65536 : Nat) : Int)) = (Crc.sb c : Int) := by
  unfold Crc.sb
  by_cases h : c / 32768 = 1
  · rw [if_pos (by omega), if_pos h]
    exact xor_nat _ 4129 (by omega) (by decide)
  · rw [if_neg (by omega), if_neg h, Nat.xor_zero]

theorem specStep_loop (n : Nat) : ∀ (j c : Nat), n + j = 8 → c < 65536 → Ev (fun k => spec_CrcStep.l0 k (c : Int) (j : Int)) (Crc.sbs n c : Int) := by
  induction n with
  | zero =>
    intro j c hj hc
    refine Ev.next (f := fun _ => some (c : Int)) (fun k => ?_) (Ev.now _)
    simp only [spec_CrcStep.l0]
    rw [if_neg (by omega)]
  | succ n ih =>
    intro j c hj hc
    refine Ev.next (f := fun k => spec_CrcStep.l0 k (Crc.sb c : Int) ((j + 1 : Nat) : Int)) (fun k => ?_) (ih (j + 1) _ (by omega) (Crc.sb_lt c))
    simp only [spec_CrcStep.l0]
    have e1 : wrap64 ((j : Int) + 1) = ((j + 1 : Nat) : Int) := by rw [w64 (by omega) (by omega)]; omega
    have e2 : Int.tmod (wrap64 ((c : Int) * 2)) 65536 = ((2 * c % 65536 : Nat) : Int) := by
      rw [dbl c hc, Int.tmod_eq_emod_of_nonneg (by omega)]; omega
    have e3 : wrap64 (Int.tdiv (c : Int) 32768) = (c : Int) / 32768 := by
      rw [Int.tdiv_eq_ediv_of_nonneg (by omega), w64 (by omega) (by omega)]
    rw [if_pos (by omega), e1, e2, e3, ← sb_int c]
    by_cases h : (c : Int) / 32768 = 1
    · rw [if_pos h, if_pos h]
    · rw [if_neg h, if_neg h]
theorem implStep_loop (n : Nat) : ∀ (j c : Nat), n + j = 8 → c < 65536 → Ev (fun k => impl_CrcStep.l0 k (c : Int) (j : Int)) (Crc.sbs n c : Int) := by
  induction n with
  | zero =>
    intro j c hj hc
    refine Ev.next (f := fun _ => some (c : Int)) (fun k => ?_) (Ev.now _)
    simp only [impl_CrcStep.l0]
    rw [if_neg (by omega)]
  | succ n ih =>
    intro j c hj hc
    refine Ev.next (f := fun k => impl_CrcStep.l0 k (Crc.sb c : Int) ((j + 1 : Nat) : Int)) (fun k => ?_) (ih (j + 1) _ (by omega) (Crc.sb_lt c))
    simp only [impl_CrcStep.l0]
    have e1 : wrap64 ((j : Int) + 1) = ((j + 1 : Nat) : Int) := by rw [w64 (by omega) (by omega)]; omega
    have e2 : Go.bits .and .i64 (wrap64 ((c : Int) * 2)) 65535 = ((2 * c % 65536 : Nat) : Int) := by
      rw [dbl c hc, and_mask16 _ (by omega) (by omega)]; omega
    rw [if_pos (by omega), e1, e2, ← sb_int c]
    by_cases h : (c : Int) / 32768 = 1
    · rw [if_pos h, if_pos h]
    · rw [if_neg h, if_neg h]
/-- What both answer. -/
def stepI (a b : Int) : Int := if 0 ≤ a ∧ a ≤ 65535 then (Crc.step a.toNat b.toNat : Int) else -1
theorem start_int (a b : Int) (ha : 0 ≤ a ∧ a ≤ 65535) (hb : 0 ≤ b ∧ b < 256) : Go.bits .xor .i64 a (wrap64 ((wrap64 b) * 256)) = ((a.toNat ^^^ b.toNat * 256 : Nat) : Int) := by
  obtain ⟨x, rfl⟩ := Int.eq_ofNat_of_zero_le ha.1
  obtain ⟨y, rfl⟩ := Int.eq_ofNat_of_zero_le hb.1
  rw [wrapc y (by omega), show ((y : Int) * 256) = ((y * 256 : Nat) : Int) by omega, wrapc _ (by omega)]
  exact xor_nat _ _ (by omega) (by omega)
theorem specStep (a b : Int) (hb : 0 ≤ b ∧ b < 256) : Ev (fun k => spec_CrcStep.f k a b) (stepI a b) := by
  unfold spec_CrcStep.f stepI
  refine Ev.bindc (l2Word_eq a) ?_
  by_cases h : 0 ≤ a ∧ a ≤ 65535
  · refine Ev.pos (by simpa using h) ?_
    rw [if_pos h, start_int a b h hb]
    exact specStep_loop 8 0 _ (by omega) (Crc.xor_lt (by omega) (by omega))
  · refine Ev.neg (by simpa using h) ?_
    rw [if_neg h]
    exact Ev.now _
theorem implStep (a b : Int) (hb : 0 ≤ b ∧ b < 256) : Ev (fun k => impl_CrcStep.f k a b) (stepI a b) := by
  unfold impl_CrcStep.f stepI
  refine Ev.bindc (within_eq a _ _) ?_
  by_cases h : 0 ≤ a ∧ a ≤ 65535
  · refine Ev.pos (by simpa using h) ?_
    rw [if_pos h, start_int a b h hb]
    exact implStep_loop 8 0 _ (by omega) (Crc.xor_lt (by omega) (by omega))
  · refine Ev.neg (by simpa using h) ?_
    rw [if_neg h]
    exact Ev.now _


/-! ### CrcOf -/
theorem toCrc {l : List Int} (h : Bytes l) : Crc.Bytes l := h
theorem Bytes.take {l : List Int} (h : Bytes l) (n : Nat) : Bytes (l.take n) := fun x hx => h x (List.mem_of_mem_take hx)
theorem Bytes.drop {l : List Int} (h : Bytes l) (n : Nat) : Bytes (l.drop n) := fun x hx => h x (List.mem_of_mem_drop hx)
theorem Bytes.append {l m : List Int} (h : Bytes l) (h2 : Bytes m) : Bytes (l ++ m) := fun x hx => by
  rcases List.mem_append.1 hx with hx | hx
  · exact h x hx
  · exact h2 x hx
theorem rd_nat_lt {l : List Int} (h : Bytes l) (i : Nat) : (rd l (i : Int)).toNat < 256 := by have := h.at_ (i : Int); omega
theorem stepI_nat (c : Nat) (b : Int) (hc : c < 65536) : stepI (c : Int) b = (Crc.step c b.toNat : Int) := by
  unfold stepI
  rw [if_pos (by omega), Int.toNat_natCast]
theorem take_step (l : List Int) (c i : Nat) (hi : i < l.length) : Crc.reg c (l.take (i + 1)) = Crc.step (Crc.reg c (l.take i)) (rd l (i : Int)).toNat := by
  rw [List.take_succ_eq_append_getElem hi, Crc.reg_append, rd_get l i hi]
  rfl
theorem implCrc_loop (l : List Int) (hb : Bytes l) (hl : l.length ≤ 1000000) (d : Nat) : ∀ (i : Nat), i + d = l.length → Ev (fun k => impl_CrcOf.l0 k (Crc.reg 65535 (l.take i) : Int) l (l.length : Int) (i : Int)) (Crc.reg 65535 l : Int) := by
  induction d with
  | zero =>
    intro i h
    refine Ev.next (f := fun _ => some (Crc.reg 65535 l : Int)) (fun k => ?_) (Ev.now _)
    simp only [impl_CrcOf.l0]
    rw [if_neg (by omega), List.take_of_length_le (by omega)]
  | succ d ih =>
    intro i h
    have hr := Crc.reg_lt 65535 _ (by decide) (toCrc (hb.take i))
    refine Ev.next (f := fun k => (impl_CrcStep.f k (Crc.reg 65535 (l.take i) : Int) (rd l (i : Int))).bind fun t => impl_CrcOf.l0 k t l (l.length : Int) ((i + 1 : Nat) : Int)) (fun k => ?_) (Ev.bind (implStep _ _ (hb.at_ _)) ?_)
    · simp only [impl_CrcOf.l0]
      rw [if_pos (by omega), if_pos (by omega), if_pos (by omega), succ_i i (by omega)]
    · rw [stepI_nat _ _ hr, ← take_step l 65535 i (by omega)]
      exact ih (i + 1) (by omega)
theorem specCrc_loop (l : List Int) (hb : Bytes l) (hl : l.length ≤ 1000000) (d : Nat) : ∀ (i : Nat), i + d = l.length → Ev (fun k => spec_CrcOf.l0 k l (Crc.reg 65535 (l.take i) : Int) (i : Int)) (Crc.reg 65535 l : Int) := by
  induction d with
  | zero =>
    intro i h
    refine Ev.next (f := fun _ => some (Crc.reg 65535 l : Int)) (fun k => ?_) (Ev.now _)
    simp only [spec_CrcOf.l0]
    rw [if_neg (by omega), List.take_of_length_le (by omega)]
  | succ d ih =>
    intro i h
    have hr := Crc.reg_lt 65535 _ (by decide) (toCrc (hb.take i))
    refine Ev.next (f := fun k => (spec_CrcStep.f k (Crc.reg 65535 (l.take i) : Int) (rd l (i : Int))).bind fun t => spec_CrcOf.l0 k l t ((i + 1 : Nat) : Int)) (fun k => ?_) (Ev.bind (specStep _ _ (hb.at_ _)) ?_)
    · simp only [spec_CrcOf.l0]
      rw [if_pos (by omega), if_pos (by omega), succ_i i (by omega)]
    · rw [stepI_nat _ _ hr, ← take_step l 65535 i (by omega)]
      exact ih (i + 1) (by omega)
/-- The check of bytes: both answer this. -/
def crcI (l : List Int) : Int := if l.length ≤ 600 then (Crc.reg 65535 l : Int) else -1
theorem l1Data_eq (l : List Int) : spec_l1Data.f l = some (decide (l.length ≤ 600)) := by
  unfold spec_l1Data.f
  rw [show decide ((l.length : Int) ≤ 600) = decide (l.length ≤ 600) from decide_eq_decide.2 (by omega)]
theorem isData_eq (l : List Int) : impl_isData.f l = some (decide (l.length ≤ 600)) := by
  unfold impl_isData.f
  rw [show decide ((l.length : Int) ≤ 600) = decide (l.length ≤ 600) from decide_eq_decide.2 (by omega)]
theorem implCrc (l : List Int) (hb : Bytes l) : Ev (fun k => impl_CrcOf.f k l) (crcI l) := by
  unfold impl_CrcOf.f crcI
  refine Ev.bindc (isData_eq l) ?_
  by_cases h : l.length ≤ 600
  · refine Ev.pos (decide_eq_true h) ?_
    rw [if_pos h]
    exact implCrc_loop l hb (by omega) l.length 0 (by omega)
  · refine Ev.neg (by simpa using h) ?_
    rw [if_neg h]
    exact Ev.now _
theorem specCrc (l : List Int) (hb : Bytes l) : Ev (fun k => spec_CrcOf.f k l) (crcI l) := by
  unfold spec_CrcOf.f crcI
  refine Ev.bindc (l1Data_eq l) ?_
  by_cases h : l.length ≤ 600
  · refine Ev.pos (decide_eq_true h) ?_
    rw [if_pos h]
    exact specCrc_loop l hb (by omega) l.length 0 (by omega)
  · refine Ev.neg (by simpa using h) ?_
    rw [if_neg h]
    exact Ev.now _

/-! ### AddCrc, CutCrc -/
def hi8 (c : Nat) : Int := ((c / 256 : Nat) : Int)
def lo8 (c : Nat) : Int := ((c % 256 : Nat) : Int)
/-- Bytes with their check behind. -/
def withCrc (l : List Int) : List Int := l ++ [hi8 (Crc.reg 65535 l), lo8 (Crc.reg 65535 l)]
def addI (l : List Int) : List Int × Bool := if l.length + 2 ≤ 600 then (withCrc l, true) else ([], false)
theorem hi8_byte (c : Nat) (h : c < 65536) : 0 ≤ hi8 c ∧ hi8 c < 256 := by unfold hi8; omega
theorem lo8_byte (c : Nat) : 0 ≤ lo8 c ∧ lo8 c < 256 := by unfold lo8; omega
theorem withCrc_bytes (l : List Int) (h : Bytes l) : Bytes (withCrc l) := h.append (fun x hx => by
  have hr := Crc.reg_lt 65535 _ (by decide) (toCrc h)
  have h1 := hi8_byte _ hr
  have h2 := lo8_byte (Crc.reg 65535 l)
  simp only [List.mem_cons, List.not_mem_nil, or_false] at hx
  rcases hx with rfl | rfl
  · exact h1
  · exact h2)
theorem withCrc_length (l : List Int) : (withCrc l).length = l.length + 2 := by simp [withCrc]
theorem implAdd (l : List Int) (hb : Bytes l) (hl : l.length ≤ 2000000) : Ev (fun k => impl_AddCrc.f k l) (addI l) := by
  unfold impl_AddCrc.f addI
  have e : wrap64 ((l.length : Int) + 2) = (l.length : Int) + 2 := w64 (by omega) (by omega)
  rw [e]
  by_cases h : l.length + 2 ≤ 600
  · rw [if_pos h]
    have hr := Crc.reg_lt 65535 _ (by decide) (toCrc hb)
    refine Ev.neg (by omega) (Ev.bind (implCrc l hb) (Ev.bindc rfl (Ev.pos (by simp; omega) (Ev.bindc rfl (Ev.bindc rfl (Ev.pos (by simp; omega) (Ev.const ?_)))))))
    have e1 : crcI l = (Crc.reg 65535 l : Int) := by unfold crcI; rw [if_pos (by omega)]
    have e2 : (crcI l / 256) % 256 = hi8 (Crc.reg 65535 l) := by rw [e1]; unfold hi8; omega
    have e3 : crcI l % 256 = lo8 (Crc.reg 65535 l) := by rw [e1]; unfold lo8; omega
    rw [e2, e3]
    rfl
  · rw [if_neg h]
    exact Ev.pos (by omega) (Ev.now _)
theorem specAdd (l : List Int) (hb : Bytes l) (hl : l.length ≤ 2000000) : Ev (fun k => spec_AddCrc.f k l) (addI l) := by
  unfold spec_AddCrc.f addI
  have e : wrap64 ((l.length : Int) + 2) = (l.length : Int) + 2 := w64 (by omega) (by omega)
  rw [e]
  by_cases h : l.length + 2 ≤ 600
  · rw [if_pos h]
    have hr := Crc.reg_lt 65535 _ (by decide) (toCrc hb)
    refine Ev.neg (by omega) (Ev.bind (specCrc l hb) (Ev.bindc rfl (Ev.pos (by simp; omega) (Ev.bindc rfl (Ev.bindc rfl (Ev.pos (by simp; omega) (Ev.const ?_)))))))
    have e1 : crcI l = (Crc.reg 65535 l : Int) := by unfold crcI; rw [if_pos (by omega)]
    have e2 : (wrap64 (Int.tdiv (crcI l) 256)) % 256 = hi8 (Crc.reg 65535 l) := by
      rw [e1, Int.tdiv_eq_ediv_of_nonneg (by omega), w64 (by omega) (by omega)]
      unfold hi8
      omega
    have e3 : (Int.tmod (crcI l) 256) % 256 = lo8 (Crc.reg 65535 l) := by
      rw [e1, Int.tmod_eq_emod_of_nonneg (by omega)]
      unfold lo8
      omega
    rw [e2, e3]
    rfl
  · rw [if_neg h]
    exact Ev.pos (by omega) (Ev.now _)

/-- Data whose last two bytes are the check of the others. -/
def good (l : List Int) : Prop := l.length ≤ 600 ∧ 2 ≤ l.length ∧ Crc.reg 65535 l = 0
instance (l : List Int) : Decidable (good l) := by unfold good; infer_instance
def cutI (l : List Int) : List Int × Bool := if good l then (l.take (l.length - 2), true) else ([], false)
theorem split_two (l : List Int) (h : 2 ≤ l.length) : l = l.take (l.length - 2) ++ [rd l ((l.length - 2 : Nat) : Int), rd l ((l.length - 1 : Nat) : Int)] := by
  apply List.ext_getElem
  · simp; omega
  · intro i h1 h2
    by_cases hi : i < l.length - 2
    · rw [List.getElem_append_left (by simp; omega)]
      simp
    · rw [List.getElem_append_right (by simp; omega)]
      by_cases hi2 : i = l.length - 2
      · subst hi2
        simp [rd]
        rw [List.getElem?_eq_getElem (by omega)]
        simp
      · have hi3 : i = l.length - 1 := by omega
        subst hi3
        have : l.length - 1 - (l.length - 2) = 1 := by omega
        simp [rd, this]
        rw [List.getElem?_eq_getElem (by omega)]
        simp
theorem reg_zero_iff (l : List Int) (hb : Bytes l) (h : 2 ≤ l.length) : Crc.reg 65535 l = 0 ↔ Crc.reg 65535 (l.take (l.length - 2)) = (rd l ((l.length - 2 : Nat) : Int)).toNat * 256 + (rd l ((l.length - 1 : Nat) : Int)).toNat := by
  conv => lhs; rw [split_two l h]
  rw [Crc.reg_append]
  exact Crc.reg_two _ _ _ (Crc.reg_lt 65535 _ (by decide) (toCrc (hb.take _))) (rd_nat_lt hb _) (rd_nat_lt hb _)
theorem cut_eq (l : List Int) (hb : Bytes l) (h6 : l.length ≤ 600) (h2 : 2 ≤ l.length) (y : Int) (hy : y = ((rd l ((l.length - 2 : Nat) : Int)).toNat * 256 + (rd l ((l.length - 1 : Nat) : Int)).toNat : Nat)) :
    (if crcI (l.take (l.length - 2)) = y then (l.take (l.length - 2), true) else ([], false)) = cutI l := by
  have e1 : crcI (l.take (l.length - 2)) = (Crc.reg 65535 (l.take (l.length - 2)) : Int) := by unfold crcI; rw [if_pos (by rw [List.length_take]; omega)]
  unfold cutI
  rw [e1, hy]
  by_cases hz : Crc.reg 65535 l = 0
  · rw [if_pos (by have := (reg_zero_iff l hb h2).1 hz; omega), if_pos (show good l from ⟨h6, h2, hz⟩)]
  · rw [if_neg (fun e => hz ((reg_zero_iff l hb h2).2 (by omega))), if_neg (fun e : good l => hz e.2.2)]
theorem or_join (a b : Int) (ha : 0 ≤ a ∧ a < 256) (hb : 0 ≤ b ∧ b < 256) : Go.bits .or .i64 (wrap64 ((wrap64 a) * 256)) (wrap64 b) = ((a.toNat * 256 + b.toNat : Nat) : Int) := by
  rw [w64 (x := a) (by omega) (by omega), w64 (x := b) (by omega) (by omega), w64 (by omega) (by omega)]
  have h8 : (2 : Int) ^ 8 = 256 := by decide
  have h62 : (2 : Int) ^ 62 = 4611686018427387904 := by decide
  rw [bits_join .i64 62 (by decide) wraps62 8 (a * 256) b (by omega) (by rw [h8]; omega) (by rw [h62]; omega) hb.1 (by rw [h8]; omega) (by rw [h62]; omega)]
  omega
theorem idx2 (l : List Int) (h : 2 ≤ l.length) : ((l.length : Int) - 2) = ((l.length - 2 : Nat) : Int) := by omega
theorem idx1 (l : List Int) (h : 2 ≤ l.length) : ((l.length : Int) - 1) = ((l.length - 1 : Nat) : Int) := by omega
theorem implCut (l : List Int) (hb : Bytes l) : Ev (fun k => impl_CutCrc.f k l) (cutI l) := by
  unfold impl_CutCrc.f
  by_cases h : l.length ≤ 600 ∧ 2 ≤ l.length
  · refine Ev.pos h (Ev.bind (implCrc _ (hb.take _)) (Ev.const ?_))
    congr 1
    exact cut_eq l hb h.1 h.2 _ (by rw [idx2 l h.2, idx1 l h.2]; exact or_join _ _ (hb.at_ _) (hb.at_ _))
  · refine Ev.neg h (Ev.const ?_)
    unfold cutI
    rw [if_neg (fun e : good l => h ⟨e.1, e.2.1⟩)]
theorem specCut (l : List Int) (hb : Bytes l) : Ev (fun k => spec_CutCrc.f k l) (cutI l) := by
  unfold spec_CutCrc.f
  by_cases h : l.length ≤ 600 ∧ 2 ≤ l.length
  · refine Ev.pos h (Ev.bind (specCrc _ (hb.take _)) (Ev.const ?_))
    congr 1
    refine cut_eq l hb h.1 h.2 _ ?_
    rw [idx2 l h.2, idx1 l h.2]
    have h1 := hb.at_ ((l.length - 2 : Nat) : Int)
    have h2 := hb.at_ ((l.length - 1 : Nat) : Int)
    generalize rd l ((l.length - 2 : Nat) : Int) = a at h1 ⊢
    generalize rd l ((l.length - 1 : Nat) : Int) = b at h2 ⊢
    rw [w64 (x := a) (by omega) (by omega), w64 (x := b) (by omega) (by omega), w64 (x := a * 256) (by omega) (by omega), w64 (by omega) (by omega)]
    omega
  · refine Ev.neg h (Ev.const ?_)
    unfold cutI
    rw [if_neg (fun e : good l => h ⟨e.1, e.2.1⟩)]
theorem good_with (l : List Int) (hb : Bytes l) (hl : l.length + 2 ≤ 600) : good (withCrc l) := by
  refine ⟨by rw [withCrc_length]; omega, by rw [withCrc_length]; omega, ?_⟩
  have hr := Crc.reg_lt 65535 _ (by decide) (toCrc hb)
  unfold withCrc
  rw [Crc.reg_append]
  show Crc.step (Crc.step _ _) _ = 0
  rw [Crc.reg_two _ _ _ hr (by unfold hi8; omega) (by unfold lo8; omega)]
  unfold hi8 lo8
  omega
theorem take_with (l : List Int) : (withCrc l).take ((withCrc l).length - 2) = l := by
  rw [withCrc_length]
  simp [withCrc]
/-- What is cut was put there. -/
theorem with_of_good (l : List Int) (hb : Bytes l) (h : good l) : withCrc (l.take (l.length - 2)) = l := by
  have e := (reg_zero_iff l hb h.2.1).1 h.2.2
  have h1 := hb.at_ ((l.length - 2 : Nat) : Int)
  have h2 := hb.at_ ((l.length - 1 : Nat) : Int)
  conv => rhs; rw [split_two l h.2.1]
  unfold withCrc hi8 lo8
  rw [e]
  congr 2
  · omega
  · congr 1
    omega

end Go.Proofs.Ytpecdgjddffhjaa.Pure
