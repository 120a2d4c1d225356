/- For all bytes drawn from the law FnArrivals answers true: each message arrives as often as its fate says, and no other one does. No condition. -/
import Derived.Test.YtcgajgmcjgoipaaPAllx6
import Derived.Test.YtcgajgmcjgoipaaWireC
namespace Go.Proofs.Ytcgajgmcjgoipaa.Pure
open Go.RowKit Go.Proofs.Ytcgajgmcjgoipaa.PAll Go.Proofs.YtcgajgmcjgoipaaW.PrintWords Go.Proofs.YtcgajgmcjgoipaaW.PrintLast Go.Proofs.YtcgajgmcjgoipaaW.PrintMore Go.Proofs.Ytcgajgmcjgoipaa.Base

theorem count_take (a : List Int) (x : Int) (i : Nat) (h : i < a.length) : ((((a.take (i + 1)).count x : Nat)) : Int) = (((a.take i).count x : Nat) : Int) + (if rd a (i : Int) = x then 1 else 0) := by
  rw [List.take_add_one, List.getElem?_eq_getElem h, List.count_append, rd_get a i h]
  simp only [Option.toList_some, List.count_singleton]
  by_cases e : a[i] = x
  · rw [if_pos e, if_pos (by simp [e])]
    omega
  · rw [if_neg e, if_neg (by simpa using e)]
    omega
theorem arrs_in (l a : List Int) (n i : Nat) (hn : n ≤ 60) (hi : i < n) (h : FV l = true) (ha : a.length ≤ 120) (hc : ((a.count (i : Int) : Nat) : Int) = Stab.want (Stab.fateV l (i : Int))) (hnext : Ev (fun k => laws_FnArrivals.l0 k l a (n : Int) ((i + 1 : Nat) : Int)) true) (d : Nat) :
    ∀ j : Nat, j + d = a.length → Ev (fun k => laws_FnArrivals.l1 k l a (i : Int) (((a.take j).count (i : Int) : Nat) : Int) (n : Int) (i : Int) a (a.length : Int) (j : Int)) true := by
  induction d with
  | zero =>
    intro j hj
    obtain rfl : j = a.length := by omega
    refine Ev.succ ?_
    simp only [laws_FnArrivals.l1]
    rw [List.take_of_length_le (Nat.le_refl _), succ_i i (by omega), hc]
    refine Ev.neg (by omega) (Ev.bindc (fateOf_in h (by omega)) ?_)
    unfold Stab.want
    by_cases f1 : Stab.fateV l (i : Int) = 1
    · rw [if_pos f1]
      exact Ev.pos f1 (Ev.pos rfl hnext)
    · rw [if_neg f1]
      by_cases f2 : Stab.fateV l (i : Int) = 2
      · rw [if_pos f2]
        exact Ev.neg f1 (Ev.pos f2 (Ev.pos rfl hnext))
      · rw [if_neg f2]
        exact Ev.neg f1 (Ev.neg f2 (Ev.pos rfl hnext))
  | succ d ih =>
    intro j hj
    have h1 := ih (j + 1) (by omega)
    have hcl := List.count_le_length (a := (i : Int)) (l := a.take j)
    rw [List.length_take] at hcl
    rw [count_take a _ j (by omega)] at h1
    refine Ev.succ ?_
    simp only [laws_FnArrivals.l1]
    rw [succ_i j (by omega), w64 (x := (((a.take j).count (i : Int) : Nat) : Int) + 1) (by omega) (by omega)]
    refine Ev.pos (by omega) (Ev.pos (by omega) (Ev.pos (by omega) ?_))
    by_cases e : rd a (j : Int) = (i : Int)
    · rw [if_pos e] at h1
      exact Ev.pos e h1
    · rw [if_neg e, Int.add_zero] at h1
      exact Ev.neg e h1
theorem arrs_loop (l : List Int) (n : Nat) (hn : n ≤ 60) (h : FV l = true) (d : Nat) : ∀ i : Nat, i + d = n → Ev (fun k => laws_FnArrivals.l0 k l (Stab.arr l n) (n : Int) (i : Int)) true := by
  induction d with
  | zero =>
    intro i hi
    refine Ev.succ ?_
    simp only [laws_FnArrivals.l0]
    exact Ev.neg (by omega) (Ev.now _)
  | succ d ih =>
    intro i hi
    have hlen : (Stab.arr l n).length ≤ 120 := by
      rw [Stab.arr_len]
      have := Stab.pushes_len l n
      omega
    refine Ev.succ ?_
    simp only [laws_FnArrivals.l0]
    exact Ev.pos (by omega) (arrs_in l _ n i hn (by omega) h hlen (Stab.arr_count l n i (by omega)) (ih (i + 1) (by omega)) (Stab.arr l n).length 0 (by omega))
theorem FnArrivals : laws_FnArrivals.Pure := by
  intro l h1 h2 h3
  refine Ev.rounds ?_
  unfold laws_FnArrivals.f
  have hb := wf_bytes h3
  by_cases h : (l.length : Int) > 1048576
  · exact Ev.pos h (Ev.now _)
  · obtain ⟨b, n, g1, g2, g3, g4⟩ := drawArr_ev l hb
    have hlen := arrI_len b n
    have hj : Ev (fun k => laws_FnArrivals.j0 k b n (arrI b n) true) true := by
      refine Ev.succ ?_
      simp only [laws_FnArrivals.j0]
      exact Ev.pos trivial (Ev.bind (specArr b n (by omega)) (Ev.bind (wnInts_self (arrI b n) (by omega)) (Ev.pos rfl (Ev.bindc (implFV b) (Ev.bind (specFV b (by omega)) (Ev.eq (Ev.now _) (by simp)))))))
    refine Ev.neg h (Ev.bind g4 (Ev.bindc (implArr b n) (Ev.bind (specArr b n (by omega)) (Ev.bind (wnInts_self (arrI b n) (by omega)) (Ev.pos rfl (Ev.bindc (implFV b) ?_))))))
    by_cases hv : FV b = true
    · refine Ev.pos hv ?_
      by_cases hn : n < 0
      · exact Ev.pos hn hj
      · refine Ev.neg hn ?_
        by_cases h6 : n > 60
        · simpa only [decide_eq_true h6] using hj
        · have hf : decide (n > 60) = false := decide_eq_false h6
          simp only [hf]
          obtain ⟨m, rfl⟩ := Int.eq_ofNat_of_zero_le (show 0 ≤ n by omega)
          refine Ev.succ ?_
          simp only [laws_FnArrivals.j0]
          refine Ev.neg Bool.false_ne_true ?_
          unfold arrI
          rw [if_pos (sendI_of hv (by omega)), Int.toNat_natCast]
          exact arrs_loop b m (by omega) hv m 0 (by omega)
    · exact Ev.neg hv hj
end Go.Proofs.Ytcgajgmcjgoipaa.Pure
