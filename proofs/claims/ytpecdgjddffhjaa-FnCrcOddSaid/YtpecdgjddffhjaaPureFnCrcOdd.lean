/- For all bytes that the law FnCrcOdd draws data of, it answers true: one, two or three turned bits are never taken for right, however far they are from each other. No condition. -/
import Derived.Test.YtpecdgjddffhjaaPAllx22
import Derived.Test.YtpecdgjddffhjaaChkP
import Derived.Test.YtpecdgjddffhjaaFlipI
namespace Go.Proofs.Ytpecdgjddffhjaa.Pure
open Go.RowKit Go.Proofs.Ytpecdgjddffhjaa.PAll Go.Proofs.YtpecdgjddffhjaaW.PrintWords Go.Proofs.YtpecdgjddffhjaaW.PrintLast Go.Proofs.YtpecdgjddffhjaaW.PrintMore Go.Proofs.Ytpecdgjddffhjaa.Base

theorem mod_step (n i r : Nat) (hi : i < n) (hr : 1 ≤ r) (hr2 : r < n) : (i + r) % n ≠ i := by
  intro e
  by_cases h : i + r < n
  · rw [Nat.mod_eq_of_lt h] at e
    omega
  · rw [Nat.mod_eq_sub_mod (by omega), Nat.mod_eq_of_lt (by omega)] at e
    omega
theorem two_ne (n i j : Nat) (hi : i < n) (hj : j < n) (hij : i ≠ j) (hn : n ≤ 4800) : Crc.sbs (n - i) 32768 ^^^ Crc.sbs (n - j) 32768 ≠ 0 := by
  by_cases h : n - i < n - j
  · exact Crc.two_apart _ _ h (by omega)
  · rw [Nat.xor_comm]
    exact Crc.two_apart _ _ (by omega) (by omega)
theorem not_good (y : List Int) (h : Crc.reg 65535 y ≠ 0) : (cutI y).2 = false := by
  unfold cutI
  rw [if_neg (fun hg : good y => h hg.2.2)]
theorem odd_top : Crc.odd 32768 = true := by decide +kernel
theorem odd_zero : Crc.odd 0 = false := by decide +kernel
theorem three_ne (a b c : Nat) : Crc.sbs a 32768 ^^^ Crc.sbs b 32768 ^^^ Crc.sbs c 32768 ≠ 0 := by
  intro e
  have e6 : Crc.odd (Crc.sbs a 32768 ^^^ Crc.sbs b 32768 ^^^ Crc.sbs c 32768) = Crc.odd 0 := by rw [e]
  rw [Crc.odd_xor, Crc.odd_xor, Crc.odd_sbs _ _ (by decide), Crc.odd_sbs _ _ (by decide), Crc.odd_sbs _ _ (by decide), odd_top, odd_zero] at e6
  cases e6
theorem flips_bad (x : List Int) (hx : Bytes x) (hg : good x) (i j k : Nat) (hi : i < 8 * x.length) (hj : j < 8 * x.length) (hk : k < 8 * x.length) (hij : i ≠ j) :
    (cutI (Crc.flip x i)).2 = false ∧ (cutI (Crc.flip (Crc.flip x i) j)).2 = false ∧ (cutI (Crc.flip (Crc.flip (Crc.flip x i) j) k)).2 = false := by
  have h6 := hg.1
  have hz := hg.2.2
  have y1 := Crc.flip_bytes x i hx hi
  have y1l := Crc.flip_length x i
  have t1 : Crc.reg 65535 (Crc.flip x i) = Crc.sbs (8 * x.length - i) 32768 := by
    rw [Crc.reg_flip _ _ _ (by decide) hx hi, hz, Nat.zero_xor]
  have y2 := Crc.flip_bytes (Crc.flip x i) j y1 (by rw [y1l]; exact hj)
  have y2l : (Crc.flip (Crc.flip x i) j).length = x.length := by rw [Crc.flip_length, y1l]
  have t2 : Crc.reg 65535 (Crc.flip (Crc.flip x i) j) = Crc.sbs (8 * x.length - i) 32768 ^^^ Crc.sbs (8 * x.length - j) 32768 := by
    rw [Crc.reg_flip _ _ _ (by decide) y1 (by rw [y1l]; exact hj), t1, y1l]
  have t3 : Crc.reg 65535 (Crc.flip (Crc.flip (Crc.flip x i) j) k) = Crc.sbs (8 * x.length - i) 32768 ^^^ Crc.sbs (8 * x.length - j) 32768 ^^^ Crc.sbs (8 * x.length - k) 32768 := by
    rw [Crc.reg_flip _ _ _ (by decide) y2 (by rw [y2l]; exact hk), t2, y2l]
  refine ⟨not_good _ ?_, not_good _ ?_, not_good _ ?_⟩
  · rw [t1]
    exact Crc.sbs_ne _ _ (by decide) (by decide)
  · rw [t2]
    exact two_ne _ i j hi hj hij (by clear t1 t2 t3 hz; omega)
  · rw [t3]
    exact three_ne _ _ _
theorem tmod_nat (a n : Nat) (ha : a ≤ 1000000000) : Int.tmod (wrap64 (a : Int)) (n : Int) = ((a % n : Nat) : Int) := by
  rw [w64 (by omega) (by omega), Int.tmod_eq_emod_of_nonneg (by omega), Int.natCast_emod]
theorem odd_last (l x : List Int) (hl : l.length ≤ 1048576) (hx : Bytes x) (hg : good x) (y : List Int) (b c : Bool) : Ev (fun k => laws_FnCrcOdd.j0 k l x b y c false) true := by
  have h6 := hg.1
  have h2 := hg.2.1
  obtain ⟨n, hn⟩ : ∃ n, n = 8 * x.length := ⟨_, rfl⟩
  have e1 : wrap64 (8 * (x.length : Int)) = (n : Int) := by rw [w64 (by omega) (by omega)]; omega
  have e1b : wrap64 ((n : Int) - 1) = ((n - 1 : Nat) : Int) := by rw [w64 (by omega) (by omega)]; omega
  have e2 := tmod_nat (l.length * 31) n (by omega)
  have e3 := tmod_nat (l.length * 17) (n - 1) (by omega)
  have hin : l.length * 31 % n < n := Nat.mod_lt _ (by omega)
  have hrn : l.length * 17 % (n - 1) < n - 1 := Nat.mod_lt _ (by omega)
  rw [show ((l.length * 31 : Nat) : Int) = (l.length : Int) * 31 by omega] at e2
  rw [show ((l.length * 17 : Nat) : Int) = (l.length : Int) * 17 by omega] at e3
  generalize l.length * 31 % n = i at e2 hin
  generalize l.length * 17 % (n - 1) = r at e3 hrn
  have E1 := Aside0.mk e1
  have E1b := Aside0.mk e1b
  have E2 := Aside0.mk e2
  have E3 := Aside0.mk e3
  clear e1 e1b e2 e3
  have hji := mod_step n i (1 + r) hin (by omega) (by omega)
  have hjn : (i + (1 + r)) % n < n := Nat.mod_lt _ (by omega)
  have e4 := tmod_nat (i + (1 + r)) n (by omega)
  generalize (i + (1 + r)) % n = j at e4 hjn hji
  have E4 : Aside0 (Int.tmod (wrap64 ((wrap64 ((i : Int) + 1)) + (r : Int))) (n : Int) = (j : Int)) := by
    constructor
    rw [show ((i + (1 + r) : Nat) : Int) = (i : Int) + 1 + (r : Int) by clear e4; omega] at e4
    rw [w64 (x := (i : Int) + 1) (by clear e4; omega) (by clear e4; omega)]
    exact e4
  clear e4
  have hkn : (j + 1) % n < n := Nat.mod_lt _ (by omega)
  have e5 := tmod_nat (j + 1) n (by omega)
  rw [show ((j + 1 : Nat) : Int) = (j : Int) + 1 by clear e5; omega] at e5
  generalize (j + 1) % n = k at e5 hkn
  have E5 := Aside0.mk e5
  clear e5
  obtain ⟨c1, c2, c3⟩ := flips_bad x hx hg i j k (by omega) (by omega) (by omega) (Ne.symm hji)
  have y1 := Crc.flip_bytes x i hx (by omega)
  have y1l := Crc.flip_length x i
  have y2 := Crc.flip_bytes (Crc.flip x i) j y1 (by omega)
  have y2l : (Crc.flip (Crc.flip x i) j).length = x.length := by rw [Crc.flip_length, y1l]
  have y3 := Crc.flip_bytes (Crc.flip (Crc.flip x i) j) k y2 (by omega)
  refine Ev.succ ?_
  simp only [laws_FnCrcOdd.j0]
  rw [E1.out, E1b.out, E2.out, E3.out, E4.out, E5.out]
  refine Ev.neg Bool.false_ne_true (Ev.neg (by omega) (Ev.neg (by omega) (Ev.bindc (implFlip_nat x hx h6 i (by omega)) (Ev.bindc (implFlip_nat (Crc.flip x i) y1 (by omega) j (by omega)) (Ev.bindc (implFlip_nat (Crc.flip (Crc.flip x i) j) y2 (by omega) k (by omega)) (Ev.bind (implCut _ y1) (Ev.bind (implCut _ y2) (Ev.bind (implCut _ y3) ?_))))))))
  exact Ev.neg (by rw [c1]; exact Bool.false_ne_true) (Ev.neg (by rw [c2]; exact Bool.false_ne_true) (Ev.neg (by rw [c3]; exact Bool.false_ne_true) (Ev.now _)))
theorem FnCrcOdd : laws_FnCrcOdd.Pure := by
  intro l h1 h2 h3
  refine Ev.rounds ?_
  unfold laws_FnCrcOdd.f
  by_cases h : (l.length : Int) > 1048576
  · exact Ev.pos h (Ev.now _)
  · obtain ⟨b, hb, hbl, hd⟩ := drawAdd_ev l (wf_bytes h3)
    refine Ev.neg h (Ev.bind hd (Ev.bind (implAdd b hb (by omega)) (Ev.bind (specAdd b hb (by omega)) (Ev.neg (by simp) (Ev.pos rfl ?_)))))
    by_cases h6 : b.length + 2 ≤ 600
    · have e : addI b = (withCrc b, true) := by unfold addI; rw [if_pos h6]
      have hg := good_with b hb h6
      rw [e]
      exact odd_last l (withCrc b) (by omega) (withCrc_bytes b hb) hg _ _ _
    · have e : addI b = ([], false) := by unfold addI; rw [if_neg h6]
      rw [e]
      refine Ev.succ ?_
      simp only [laws_FnCrcOdd.j0]
      exact Ev.pos (by first | rfl | trivial) (Ev.pos (by first | rfl | trivial) (Ev.eq (Ev.now _) (by simp)))
end Go.Proofs.Ytpecdgjddffhjaa.Pure
