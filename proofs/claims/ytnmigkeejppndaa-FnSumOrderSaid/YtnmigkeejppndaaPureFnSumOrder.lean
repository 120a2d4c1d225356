/- For all bytes that the law FnSumOrder draws data of, it answers true: the sum does not hang on the order of the words, nor on a 0 behind, and with the sum behind it is right. No condition. -/
import Derived.Test.YtnmigkeejppndaaPAllx3
import Derived.Test.YtnmigkeejppndaaPAllx4
import Derived.Test.YtnmigkeejppndaaPAllx5
import Derived.Test.YtnmigkeejppndaaChkS
namespace Go.Proofs.Ytnmigkeejppndaa.Pure
open Go.RowKit Go.Proofs.Ytnmigkeejppndaa.PAll Go.Proofs.YtnmigkeejppndaaW.PrintWords Go.Proofs.YtnmigkeejppndaaW.PrintLast Go.Proofs.YtnmigkeejppndaaW.PrintMore Go.Proofs.Ytnmigkeejppndaa.Base

theorem drawSum_ev (l : List Int) (hb : Bytes l) : ∃ b, Bytes b ∧ b.length ≤ 601 ∧ Ev (fun k => spec_DrawSumOf.f k l) b := by
  obtain ⟨s, hs1, hs2, hs3⟩ := open_eq l
  obtain ⟨b, q, h1, h2, h3, h4, h5⟩ := draw_ev s 0 (hs2 hb) hs1 (by omega)
  unfold spec_DrawSumOf.f
  exact ⟨b, h1, h2, Ev.bindc hs3 (Ev.bind h5 (Ev.now _))⟩
theorem sum_two (n : Int) (hn : 0 ≤ n ∧ n ≤ 65535) : (wrap64 (Int.tdiv n 256)) % 256 = n / 256 ∧ (Int.tmod n 256) % 256 = n % 256 := by
  rw [Int.tdiv_eq_ediv_of_nonneg hn.1, Int.tmod_eq_emod_of_nonneg hn.1, w64 (by omega) (by omega)]
  omega
theorem norm_right (t : Int) (ht : 0 ≤ t) (h : norm t ≠ 0) : norm (t + (65535 - norm t)) = 65535 := by
  unfold norm at h ⊢
  by_cases hz : t = 0
  · rw [if_pos hz] at h
    exact absurd rfl h
  · rw [if_neg hz, if_neg (by omega)]
    omega
/-- Behind the loop: the words in another order have one sum with those in their own. -/
theorem order_end (b x : List Int) (hb : Bytes b) (hx : Bytes x) (hl : b.length ≤ 600) (hxl : x.length = b.length / 2 * 2) (ht : tot x = tot (b.take (b.length / 2 * 2))) (j : Int) (hj : j < 0) : Ev (fun k => laws_FnSumOrder.l0 k b (sumI b) x j) true := by
  have hs : sumI b = 65535 - norm (tot b) := by unfold sumI; rw [if_pos hl]
  have hn := norm_range (tot b)
  have tb := tot_nonneg b hb
  have e1 : wrap64 ((b.length : Int) - ((b.length : Int) % 2)) = ((b.length / 2 * 2 : Nat) : Int) := by rw [w64 (by omega) (by omega)]; omega
  have hsplit : tot b = tot (b.take (b.length / 2 * 2)) + tot (b.drop (b.length / 2 * 2)) := by
    rw [← tot_append _ _ (by rw [List.length_take]; omega), List.take_append_drop]
  have hx2 : Bytes (x ++ b.drop (b.length / 2 * 2)) := hx.append (hb.drop _)
  have hsum : sumI (x ++ b.drop (b.length / 2 * 2)) = sumI b := by
    rw [hs]
    unfold sumI
    rw [if_pos (by simp; omega), tot_append _ _ (by omega), ht, ← hsplit]
  have hend : ∀ z : List Int, z = b ++ [(wrap64 (Int.tdiv (sumI b) 256)) % 256, (Int.tmod (sumI b) 256) % 256] → b.length % 2 = 0 → sumI b ≠ 65535 → z.length ≤ 600 → Bytes z ∧ rightI z = true := by
    intro z hz he hne hz6
    obtain ⟨q1, q2⟩ := sum_two (sumI b) (by omega)
    rw [q1, q2] at hz
    refine ⟨?_, ?_⟩
    · rw [hz]
      refine hb.append (fun v hv => ?_)
      simp only [List.mem_cons, List.not_mem_nil, or_false] at hv
      rcases hv with rfl | rfl <;> omega
    · unfold rightI
      refine decide_eq_true ?_
      unfold sumI
      rw [if_pos hz6, hz, tot_append _ _ he]
      have e2 : tot [sumI b / 256, sumI b % 256] = sumI b := by
        show sumI b / 256 * 256 + sumI b % 256 + tot [] = _
        simp only [tot]
        omega
      rw [e2, hs, norm_right _ tb (by omega)]
      omega
  have hodd : b.length + 1 ≤ 600 → b.length % 2 = 1 → Ev (fun k => (some (([] : List Int) : List Int)).bind fun y278 => (if y278.length + b.length < 140737488355328 then ((some (y278 ++ b : List Int)).bind fun y281 => (if y281.length < 140737488355328 then ((impl_SumOf.f k (y281 ++ [0])).bind fun t287 => (if t287 = sumI b then ((some (([] : List Int) : List Int)).bind fun y288 => (if y288.length + b.length < 140737488355328 then (if (y288 ++ b).length + (([(wrap64 (Int.tdiv (sumI b) 256)) % 256, (Int.tmod (sumI b) 256) % 256] : List Int)).length < 140737488355328 then (some true) else (none)) else (none))) else (some false))) else (none))) else (none))) true := by
    intro h7 hp
    refine Ev.bindc rfl (Ev.pos (by simp; omega) (Ev.bindc rfl (Ev.pos (by simp; omega) (Ev.bind (implSum _ ?_) (Ev.pos ?_ (Ev.bindc rfl (Ev.pos (by simp; omega) (Ev.pos (by simp; omega) (Ev.now _)))))))))
    · rw [List.nil_append]
      exact hb.append (fun v hv => by obtain rfl := List.mem_singleton.1 hv; omega)
    · rw [List.nil_append, hs]
      unfold sumI
      rw [if_pos (by simp; omega), tot_snoc, if_neg (by omega)]
      simp
  refine Ev.succ ?_
  simp only [laws_FnSumOrder.l0]
  rw [e1, Int.toNat_natCast]
  refine Ev.neg (by omega) (Ev.pos (by omega) (Ev.pos (by omega) (Ev.bindc rfl (Ev.pos (by simp; omega) (Ev.bind (implSum _ hx2) (Ev.pos hsum ?_))))))
  by_cases h7 : wrap64 ((b.length : Int) + 1) ≤ 600
  · refine Ev.pos h7 ?_
    rw [w64 (by omega) (by omega)] at h7
    by_cases hp : ((b.length : Int) % 2) = 1
    · exact Ev.pos hp (hodd (by omega) (by omega))
    · refine Ev.neg hp (Ev.bindc rfl (Ev.pos (by simp; omega) (Ev.bindc rfl (Ev.bindc rfl (Ev.pos (by simp; omega) (Ev.bindc rfl ?_))))))
      rw [List.nil_append]
      obtain ⟨z, hz⟩ : ∃ z, z = b ++ [(wrap64 (Int.tdiv (sumI b) 256)) % 256, (Int.tmod (sumI b) 256) % 256] := ⟨_, rfl⟩
      rw [← hz]
      by_cases hz6 : (z.length : Int) > 600
      · exact Ev.pos hz6 (Ev.now _)
      · refine Ev.neg hz6 ?_
        by_cases hne : sumI b = 65535
        · exact Ev.pos hne (Ev.now _)
        · obtain ⟨hzb, hzr⟩ := hend z hz (by omega) hne (by omega)
          refine Ev.neg hne (Ev.bind (implRight z hzb) (Ev.eq (Ev.now _) hzr))
  · refine Ev.neg h7 (Ev.bindc rfl (Ev.pos (by simp; omega) (Ev.bindc rfl (Ev.bindc rfl (Ev.pos (by simp; omega) (Ev.bindc rfl ?_))))))
    rw [List.nil_append]
    obtain ⟨z, hz⟩ : ∃ z, z = b ++ [(wrap64 (Int.tdiv (sumI b) 256)) % 256, (Int.tmod (sumI b) 256) % 256] := ⟨_, rfl⟩
    rw [← hz]
    by_cases hp : ((b.length : Int) % 2) = 1
    · exact Ev.pos hp (Ev.now _)
    · refine Ev.neg hp ?_
      by_cases hz6 : (z.length : Int) > 600
      · exact Ev.pos hz6 (Ev.now _)
      · refine Ev.neg hz6 ?_
        by_cases hne : sumI b = 65535
        · exact Ev.pos hne (Ev.now _)
        · obtain ⟨hzb, hzr⟩ := hend z hz (by omega) hne (by omega)
          refine Ev.neg hne (Ev.bind (implRight z hzb) (Ev.eq (Ev.now _) hzr))
theorem order_loop (b : List Int) (hb : Bytes b) (hl : b.length ≤ 600) (d : Nat) : ∀ (x : List Int), Bytes x → x.length + 2 * d = b.length / 2 * 2 → tot x + tot (b.take (2 * d)) = tot (b.take (b.length / 2 * 2)) → Ev (fun k => laws_FnSumOrder.l0 k b (sumI b) x (2 * (d : Int) - 2)) true := by
  induction d with
  | zero =>
    intro x hx hxl ht
    exact order_end b x hb hx hl (by omega) (by simpa [tot] using ht) _ (by omega)
  | succ d ih =>
    intro x hx hxl ht
    have hi : 2 * d + 1 < b.length := by omega
    have e1 : 2 * ((d + 1 : Nat) : Int) - 2 = ((2 * d : Nat) : Int) := by omega
    have e2 : wrap64 (((2 * d : Nat) : Int) + 1) = ((2 * d + 1 : Nat) : Int) := succ_i (2 * d) (by omega)
    have e3 : wrap64 (((2 * d : Nat) : Int) - 2) = 2 * (d : Int) - 2 := by rw [w64 (by omega) (by omega)]; omega
    have t1 := tot_take b (2 * d) (by omega)
    have t2 := tot_take b (2 * d + 1) (by omega)
    rw [if_pos (by omega)] at t1
    rw [if_neg (by omega), t1] at t2
    refine Ev.succ ?_
    simp only [laws_FnSumOrder.l0]
    rw [e1, e2, e3]
    refine Ev.pos (by omega) (Ev.pos (by omega) (Ev.pos (by omega) (Ev.pos (by omega) (Ev.pos (by omega) (Ev.bindc rfl (Ev.pos (by simp; omega) (ih _ (hx.append (fun v hv => ?_)) (by simp; omega) ?_)))))))
    · simp only [List.mem_cons, List.not_mem_nil, or_false] at hv
      rcases hv with rfl | rfl
      · exact hb.at_ _
      · exact hb.at_ _
    · rw [tot_append _ _ (by omega)]
      show tot x + (rd b ((2 * d : Nat) : Int) * 256 + rd b ((2 * d + 1 : Nat) : Int) + tot []) + tot (b.take (2 * d)) = _
      rw [← ht, show 2 * (d + 1) = 2 * d + 1 + 1 by omega, t2]
      simp only [tot]
      omega
theorem FnSumOrder : laws_FnSumOrder.Pure := by
  intro l h1 h2 h3
  refine Ev.rounds ?_
  unfold laws_FnSumOrder.f
  by_cases h : (l.length : Int) > 1048576
  · exact Ev.pos h (Ev.now _)
  · obtain ⟨b, hb, hbl, hd⟩ := drawSum_ev l (wf_bytes h3)
    refine Ev.neg h (Ev.bind hd (Ev.bind (implSum b hb) (Ev.bind (specSum b hb) (Ev.pos rfl ?_))))
    by_cases h6 : b.length ≤ 600
    · have hn : ¬ sumI b < 0 := by
        have := norm_range (tot b)
        unfold sumI
        rw [if_pos h6]
        omega
      rw [decide_eq_false hn]
      refine Ev.succ ?_
      simp only [laws_FnSumOrder.j0]
      have e1 : wrap64 ((wrap64 ((b.length : Int) - ((b.length : Int) % 2))) - 2) = 2 * ((b.length / 2 : Nat) : Int) - 2 := by
        rw [w64 (x := (b.length : Int) - ((b.length : Int) % 2)) (by omega) (by omega), w64 (by omega) (by omega)]
        omega
      rw [e1]
      refine Ev.neg Bool.false_ne_true (order_loop b hb h6 (b.length / 2) [] (fun v hv => by cases hv) (by simp; omega) ?_)
      rw [show 2 * (b.length / 2) = b.length / 2 * 2 by omega]
      simp [tot]
    · have hn : sumI b = -1 := by unfold sumI; rw [if_neg h6]
      rw [decide_eq_true (by omega)]
      refine Ev.succ ?_
      simp only [laws_FnSumOrder.j0]
      refine Ev.pos trivial (Ev.bind (specSum b hb) (Ev.pos rfl (Ev.eq (Ev.now _) ?_)))
      rw [hn]
      rfl
end Go.Proofs.Ytnmigkeejppndaa.Pure
