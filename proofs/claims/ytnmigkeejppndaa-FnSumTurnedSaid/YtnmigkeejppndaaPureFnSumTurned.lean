/- For all bytes that the law FnSumTurned draws its arguments of, it answers true: the sum of data of which one word has become another is the turned sum, but for the two sums that are nothing. No condition. -/
import Derived.Test.YtnmigkeejppndaaPAllx6
import Derived.Test.YtnmigkeejppndaaPAllx7
import Derived.Test.YtnmigkeejppndaaChkS
namespace Go.Proofs.Ytnmigkeejppndaa.Pure
open Go.RowKit Go.Proofs.Ytnmigkeejppndaa.PAll Go.Proofs.YtnmigkeejppndaaW.PrintWords Go.Proofs.YtnmigkeejppndaaW.PrintLast Go.Proofs.YtnmigkeejppndaaW.PrintMore Go.Proofs.Ytnmigkeejppndaa.Base

theorem drawRight_ev (l : List Int) (hb : Bytes l) : ∃ b, Bytes b ∧ b.length ≤ 603 ∧ Ev (fun k => spec_DrawSumRight.f k l) b := by
  obtain ⟨s, hs1, hs2, hs3⟩ := open_eq l
  obtain ⟨b, q, h1, h2, h3, h4, h5⟩ := draw_ev s 0 (hs2 hb) hs1 (by omega)
  unfold spec_DrawSumRight.f
  by_cases he : ((b.length : Int) % 2) = 0
  · by_cases h6 : wrap64 ((b.length : Int) + 2) ≤ 600
    · have hr := sumI_range b
      have h7 : b.length ≤ 598 := by rw [w64 (by omega) (by omega)] at h6; omega
      have hs : 0 ≤ sumI b := by
        have := norm_range (tot b)
        unfold sumI
        rw [if_pos (by omega)]
        omega
      refine ⟨b ++ [(wrap64 (Int.tdiv (sumI b) 256)) % 256, (Int.tmod (sumI b) 256) % 256], h1.append (fun x hx => ?_), by simp; omega, Ev.bindc hs3 (Ev.bind h5 (Ev.pos he (Ev.pos h6 (Ev.bind (specSum b h1) (Ev.bindc rfl (Ev.pos (by simp; omega) (Ev.now _)))))))⟩
      simp only [List.mem_cons, List.not_mem_nil, or_false] at hx
      rcases hx with rfl | rfl <;> omega
    · exact ⟨b, h1, by omega, Ev.bindc hs3 (Ev.bind h5 (Ev.pos he (Ev.neg h6 (Ev.now _))))⟩
  · exact ⟨b, h1, by omega, Ev.bindc hs3 (Ev.bind h5 (Ev.neg he (Ev.now _)))⟩
theorem l2Num_ev (s : List Int) (p : Int) (hs : Bytes s) (hl : s.length ≤ 2000) (hp : 0 ≤ p ∧ p ≤ 1000000) : ∃ x, Ev (fun k => spec_l2Num.f k s p) (x, p + 5) := by
  obtain ⟨a, ha0, ha1, ha⟩ := pick_ev s p 256 hs hl (by omega) (by omega)
  obtain ⟨b, hb0, hb1, hb⟩ := pick_ev s (p + 1) 256 hs hl (by omega) (by omega)
  obtain ⟨c, hc0, hc1, hc⟩ := pick_ev s (p + 1 + 1) 256 hs hl (by omega) (by omega)
  obtain ⟨d, hd0, hd1, hd⟩ := pick_ev s (p + 1 + 1 + 1) 65535 hs hl (by omega) (by omega)
  obtain ⟨e, he0, he⟩ := num_ev s (p + 1 + 1 + 1 + 1) [wrap64 ((wrap64 (a * 256)) + b), 0, 65535, 1, 256, wrap64 (c * 256), 65536, (-1), 65534, d] hs hl (by omega) (by simp) (by simp)
  unfold spec_l2Num.f
  refine ⟨e, Ev.bind ha (Ev.bind hb (Ev.bind hc (Ev.bind hd (Ev.bind he (Ev.eq (Ev.now _) ?_)))))⟩
  rw [show p + 1 + 1 + 1 + 1 + 1 = p + 5 by omega]
theorem drawTurned_ev (l : List Int) (hb : Bytes l) : ∃ s o n, Ev (fun k => spec_DrawSumTurned.f k l) (s, o, n) := by
  obtain ⟨s, hs1, hs2, hs3⟩ := open_eq l
  have hs := hs2 hb
  obtain ⟨x, hx⟩ := l2Num_ev s 0 hs hs1 (by omega)
  obtain ⟨y, hy⟩ := l2Num_ev s (0 + 5) hs hs1 (by omega)
  obtain ⟨z, hz⟩ := l2Num_ev s (0 + 5 + 5) hs hs1 (by omega)
  unfold spec_DrawSumTurned.f
  exact ⟨x, y, z, Ev.bindc hs3 (Ev.bind hx (Ev.bind hy (Ev.bind hz (Ev.now _))))⟩
theorem tot_two (a b : Int) (r : List Int) : tot (a :: b :: r) = a * 256 + b + tot r := rfl
theorem turned_last (b : List Int) (hb : Bytes b) (h2 : 2 ≤ b.length) (h6 : b.length ≤ 600) (n : Int) (hn : 0 ≤ n ∧ n ≤ 65535) : Ev (fun k => laws_FnSumTurned.j2 k b n false) true := by
  match b, h2 with
  | x :: y :: r, _ =>
    have hx := hb x (by simp)
    have hy := hb y (by simp)
    have hr : Bytes r := fun z hz => hb z (by simp [hz])
    have e0 : rd (x :: y :: r) 0 = x := rfl
    have e1 : rd (x :: y :: r) 1 = y := rfl
    have ew : wrap64 ((wrap64 ((wrap64 x) * 256)) + (wrap64 y)) = x * 256 + y := by
      rw [w64 (x := x) (by omega) (by omega), w64 (x := y) (by omega) (by omega), w64 (x := x * 256) (by omega) (by omega), w64 (by omega) (by omega)]
    have eh : (wrap64 (Int.tdiv n 256)) % 256 = n / 256 := by
      rw [Int.tdiv_eq_ediv_of_nonneg hn.1, w64 (by omega) (by omega)]
      omega
    have el : (Int.tmod n 256) % 256 = n % 256 := by rw [Int.tmod_eq_emod_of_nonneg hn.1]; omega
    have hnew : Bytes (n / 256 :: n % 256 :: r) := fun z hz => by
      simp only [List.mem_cons] at hz
      rcases hz with rfl | rfl | hz
      · omega
      · omega
      · exact hr z hz
    refine Ev.succ ?_
    simp only [laws_FnSumTurned.j2]
    rw [e0, e1, ew, eh, el]
    have hl : (x :: y :: r).length = r.length + 2 := by simp
    refine Ev.neg Bool.false_ne_true (Ev.bindc rfl (Ev.pos (by simp at h6 ⊢; omega) (Ev.bindc rfl ?_)))
    rw [List.nil_append]
    refine Ev.pos (by simp; omega) (Ev.pos (by simp; omega) (Ev.pos (by simp; omega) (Ev.pos (by simp; omega) (Ev.bind (implSum _ hb) (Ev.bind (implTurned _ _ _) (Ev.bind (implSum (n / 256 :: n % 256 :: r) hnew) ?_))))))
    have hs : sumI (x :: y :: r) = 65535 - norm (tot (x :: y :: r)) := by unfold sumI; rw [if_pos h6]
    have hs2 : sumI (n / 256 :: n % 256 :: r) = 65535 - norm (tot (n / 256 :: n % 256 :: r)) := by unfold sumI; rw [if_pos (by simp at h6 ⊢; omega)]
    have ht := tot_nonneg r hr
    have g := norm_range (tot (x :: y :: r))
    rw [hs, hs2, tot_two, tot_two]
    rw [tot_two] at g
    have et : turnI (65535 - norm (x * 256 + y + tot r)) (x * 256 + y) n = 65535 - norm (n + tot r + 65535) := by
      unfold turnI
      rw [if_pos ⟨by omega, by omega, hn⟩, show 65535 - (65535 - norm (x * 256 + y + tot r)) = norm (x * 256 + y + tot r) by omega, addr_norm _ _ (by omega) (by omega), addr_norm _ _ (by omega) hn]
      congr 2
      omega
    rw [et, show n / 256 * 256 + n % 256 + tot r = n + tot r by omega]
    by_cases hz : n + tot r = 0
    · rw [hz]
      refine Ev.neg (by decide) (Ev.eq (Ev.now _) (by decide))
    · refine Ev.pos ?_ (Ev.now _)
      unfold norm
      rw [if_neg (by omega), if_neg hz]
      omega
theorem turned_yes (b : List Int) (n : Int) : Ev (fun k => laws_FnSumTurned.j2 k b n true) true := by
  refine Ev.succ ?_
  simp only [laws_FnSumTurned.j2]
  exact Ev.pos trivial (Ev.now _)
theorem turned_mid (b : List Int) (hb : Bytes b) (n : Int) : Ev (fun k => laws_FnSumTurned.j1 k b n false) true := by
  refine Ev.succ ?_
  simp only [laws_FnSumTurned.j1]
  refine Ev.neg Bool.false_ne_true ?_
  by_cases h2 : (b.length : Int) < 2
  · exact Ev.pos h2 (turned_yes b n)
  · refine Ev.neg h2 ?_
    by_cases h6 : (b.length : Int) > 600
    · exact Ev.pos h6 (turned_yes b n)
    · refine Ev.neg h6 ?_
      by_cases hn : n < 0
      · exact Ev.pos hn (turned_yes b n)
      · refine Ev.neg hn ?_
        by_cases hn2 : n > 65535
        · rw [decide_eq_true hn2]
          exact turned_yes b n
        · rw [decide_eq_false hn2]
          exact turned_last b hb (by omega) (by omega) n (by omega)
theorem FnSumTurned : laws_FnSumTurned.Pure := by
  intro l m h1 h2 h3 h4 h5 h6
  refine Ev.rounds ?_
  unfold laws_FnSumTurned.f
  have hyes : Ev (fun k => laws_FnSumTurned.j0 k l m true) true := by
    refine Ev.succ ?_
    simp only [laws_FnSumTurned.j0]
    exact Ev.pos trivial (Ev.now _)
  by_cases h : (l.length : Int) > 1048576
  · exact Ev.pos h hyes
  · refine Ev.neg h ?_
    by_cases h' : (m.length : Int) > 1048576
    · rw [decide_eq_true h']
      exact hyes
    · rw [decide_eq_false h']
      obtain ⟨b, hb, hbl, hd⟩ := drawRight_ev l (wf_bytes h3)
      obtain ⟨s, o, n, hd2⟩ := drawTurned_ev m (wf_bytes h6)
      refine Ev.succ ?_
      simp only [laws_FnSumTurned.j0]
      refine Ev.neg Bool.false_ne_true (Ev.bind hd (Ev.bind hd2 (Ev.bind (implRight b hb) (Ev.bind (specRight b hb) (Ev.neg (by simp) (Ev.bind (implTurned s o n) (Ev.bind (specTurned s o n) ?_)))))))
      rw [bne_self_eq_false]
      exact turned_mid b hb n
end Go.Proofs.Ytnmigkeejppndaa.Pure
