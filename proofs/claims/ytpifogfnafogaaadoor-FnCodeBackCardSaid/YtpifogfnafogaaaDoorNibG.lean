/- Codes come back: what DecodeBytes makes of what EncodeBytes made, and of that with one bit turned in each half. -/
import Derived.Test.YtpifogfnafogaaaDoorPAllx0
import Derived.Test.YtpifogfnafogaaaDoorNibE
import Derived.Test.YtpifogfnafogaaaDoorHDec
namespace Go.Proofs.YtpifogfnafogaaaDoor.Pure
open Go.RowKit Go.Proofs.YtpifogfnafogaaaDoor.PAll Go.Proofs.YtpifogfnafogaaaDoorW.PrintWords Go.Proofs.YtpifogfnafogaaaDoorW.PrintLast Go.Proofs.YtpifogfnafogaaaDoorW.PrintMore Go.Proofs.YtpifogfnafogaaaDoor.Base
set_option maxRecDepth 100000

theorem any_miss' (l : List Int) (h : ∀ i : Nat, i < l.length → rd l (i : Int) ≤ 127) : l.any lowB = false := by
  refine List.any_eq_false.2 fun x hx => ?_
  obtain ⟨i, hi, rfl⟩ := List.getElem_of_mem hx
  have e : rd l (i : Int) = l[i] := by simp [rd, hi]
  have := h i hi
  rw [e] at this
  simp [lowB]
  omega
theorem rd_appL (A B : List Int) (i : Nat) (h : i < A.length) : rd (A ++ B) (i : Int) = rd A (i : Int) := by
  rw [rd_nat, rd_nat, List.getD_eq_getElem?_getD, List.getD_eq_getElem?_getD, List.getElem?_append_left h]
theorem rd_appR (A B : List Int) (i k : Nat) (h : i = A.length + k) : rd (A ++ B) (i : Int) = rd B (k : Int) := by
  subst h
  rw [rd_nat, rd_nat, List.getD_eq_getElem?_getD, List.getD_eq_getElem?_getD, List.getElem?_append_right (by omega), Nat.add_sub_cancel_left]
theorem encL_get (l : List Int) (m j : Nat) (hj : j < m) : rd (encL l m) ((2 * j : Nat) : Int) = encN (rd l (j : Int) / 16) ∧ rd (encL l m) ((2 * j + 1 : Nat) : Int) = encN (rd l (j : Int) % 16) := by
  induction m with
  | zero => omega
  | succ m ih =>
    simp only [encL]
    by_cases h : j < m
    · obtain ⟨h1, h2⟩ := ih h
      rw [rd_appL _ _ _ (by rw [encL_len]; omega), rd_appL _ _ _ (by rw [encL_len]; omega)]
      exact ⟨h1, h2⟩
    · obtain rfl : j = m := by omega
      rw [rd_appR _ _ (2 * j) 0 (by rw [encL_len]; omega), rd_appR _ _ (2 * j + 1) 1 (by rw [encL_len])]
      exact ⟨rfl, rfl⟩
theorem back0 : ∀ h : Fin 16, decN (encN ((h.1 : Nat) : Int)) = (((h.1 : Nat) : Int), 0) ∧ encN ((h.1 : Nat) : Int) ≤ 127 := by decide +kernel
theorem back1 : ∀ h : Fin 16, ∀ s : Fin 7, (decN (Go.bits .xor .u8 (encN ((h.1 : Nat) : Int)) (2 ^ s.1))).1 = ((h.1 : Nat) : Int) ∧ cut1 (decN (Go.bits .xor .u8 (encN ((h.1 : Nat) : Int)) (2 ^ s.1))).2 = 1 ∧ Go.bits .xor .u8 (encN ((h.1 : Nat) : Int)) (2 ^ s.1) ≤ 127 ∧ 0 ≤ Go.bits .xor .u8 (encN ((h.1 : Nat) : Int)) (2 ^ s.1) := by decide +kernel
theorem sum_const (N : Nat) (f : Nat → Int) (c : Int) (h : ∀ j, j < N → f j = c) : ((List.range N).map f).sum = N * c := by
  induction N with
  | zero => simp
  | succ N ih =>
    rw [List.range_succ, List.map_append, List.sum_append, ih (fun j hj => h j (by omega))]
    simp only [List.map_cons, List.map_nil, List.sum_cons, List.sum_nil, h N (by omega)]
    rw [show ((N + 1 : Nat) : Int) * c = N * c + c by rw [Int.natCast_add, Int.add_mul]; omega]
    omega
/-- What comes of codes each of which is a half's code, untouched (c = 0) or with one bit turned (c = 1). -/
theorem decB_of (b x : List Int) (_hb : Bytes b) (hl : b.length ≤ 600) (hx : x.length = 2 * b.length) (c : Int) (hlo : ∀ i : Nat, i < x.length → rd x (i : Int) ≤ 127)
    (h0 : ∀ j : Nat, j < b.length → (decN (rd x ((2 * j : Nat) : Int))).1 = rd b (j : Int) / 16 ∧ cut1 (decN (rd x ((2 * j : Nat) : Int))).2 = c)
    (h1 : ∀ j : Nat, j < b.length → (decN (rd x ((2 * j + 1 : Nat) : Int))).1 = rd b (j : Int) % 16 ∧ cut1 (decN (rd x ((2 * j + 1 : Nat) : Int))).2 = c) : decB x = (b, 2 * b.length * c) := by
  unfold decB
  rw [if_pos ⟨by omega, by omega, any_miss' x hlo⟩, show x.length / 2 = b.length by omega]
  have e1 : (List.range b.length).map (decAt x) = b := by
    refine List.ext_getElem (by simp) fun j hj _ => ?_
    simp only [List.length_map, List.length_range] at hj
    simp only [List.getElem_map, List.getElem_range, decAt]
    rw [(h0 j hj).1, (h1 j hj).1, rd_get b j hj]
    omega
  have e2 : ((List.range b.length).map (trnAt x)).sum = 2 * b.length * c := by
    rw [sum_const b.length (trnAt x) (c + c) (fun j hj => by unfold trnAt; rw [(h0 j hj).2, (h1 j hj).2])]
    rw [Int.mul_add, Int.mul_assoc]
    omega
  rw [e1, e2]
theorem half_fin {y : Int} (h : 0 ≤ y ∧ y < 256) : ∃ u v : Fin 16, y / 16 = ((u.1 : Nat) : Int) ∧ y % 16 = ((v.1 : Nat) : Int) :=
  ⟨⟨(y / 16).toNat, by omega⟩, ⟨(y % 16).toNat, by omega⟩, by simp only; omega, by simp only; omega⟩
theorem code_back (b : List Int) (hb : Bytes b) (hl : b.length ≤ 600) : decB (encL b b.length) = (b, 0) := by
  have h := decB_of b (encL b b.length) hb hl (encL_len _ _) 0 (fun i hi => ?_) (fun j hj => ?_) (fun j hj => ?_)
  · rw [h, Int.mul_zero]
  · rw [encL_len] at hi
    obtain ⟨u, v, eu, ev⟩ := half_fin (hb.at_ ((i / 2 : Nat) : Int))
    obtain ⟨g0, g1⟩ := encL_get b b.length (i / 2) (by omega)
    by_cases e : i % 2 = 0
    · rw [show i = 2 * (i / 2) by omega, g0, eu]
      exact (back0 u).2
    · rw [show i = 2 * (i / 2) + 1 by omega, g1, ev]
      exact (back0 v).2
  · obtain ⟨u, v, eu, ev⟩ := half_fin (hb.at_ (j : Int))
    rw [(encL_get b b.length j hj).1, eu, (back0 u).1]
    exact ⟨rfl, rfl⟩
  · obtain ⟨u, v, eu, ev⟩ := half_fin (hb.at_ (j : Int))
    rw [(encL_get b b.length j hj).2, ev, (back0 v).1]
    exact ⟨rfl, rfl⟩
/-- With one bit turned in each half. -/
theorem turn_back (b x : List Int) (hb : Bytes b) (hl : b.length ≤ 600) (hx : x.length = 2 * b.length) (s : Nat → Fin 7) (h : ∀ i : Nat, i < x.length → rd x (i : Int) = Go.bits .xor .u8 (rd (encL b b.length) (i : Int)) (2 ^ (s i).1)) : decB x = (b, 2 * (b.length : Int)) := by
  have hh := decB_of b x hb hl hx 1 (fun i hi => ?_) (fun j hj => ?_) (fun j hj => ?_)
  · rw [hh, Int.mul_one]
  · rw [h i hi]
    rw [hx] at hi
    obtain ⟨u, v, eu, ev⟩ := half_fin (hb.at_ ((i / 2 : Nat) : Int))
    obtain ⟨g0, g1⟩ := encL_get b b.length (i / 2) (by omega)
    by_cases e : i % 2 = 0
    · have e' : rd (encL b b.length) (i : Int) = encN ((u.1 : Nat) : Int) := by rw [show i = 2 * (i / 2) by omega, g0, eu]
      rw [e']
      exact (back1 u _).2.2.1
    · have e' : rd (encL b b.length) (i : Int) = encN ((v.1 : Nat) : Int) := by rw [show i = 2 * (i / 2) + 1 by omega, g1, ev]
      rw [e']
      exact (back1 v _).2.2.1
  · obtain ⟨u, v, eu, ev⟩ := half_fin (hb.at_ (j : Int))
    rw [h _ (by omega), (encL_get b b.length j hj).1, eu]
    exact ⟨(back1 u _).1, (back1 u _).2.1⟩
  · obtain ⟨u, v, eu, ev⟩ := half_fin (hb.at_ (j : Int))
    rw [h _ (by omega), (encL_get b b.length j hj).2, ev]
    exact ⟨(back1 v _).1, (back1 v _).2.1⟩
end Go.Proofs.YtpifogfnafogaaaDoor.Pure
