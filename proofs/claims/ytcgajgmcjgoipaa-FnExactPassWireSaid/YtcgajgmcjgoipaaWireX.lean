/- What FnExactPassWire's helpers over rows of bytes answer; and the law itself, run. -/
import Derived.Test.YtcgajgmcjgoipaaPAllx2
import Derived.Test.YtcgajgmcjgoipaaPAllx4
import Derived.Test.YtcgajgmcjgoipaaPAllx5
import Derived.Test.YtcgajgmcjgoipaaPAllx6
import Derived.Test.YtcgajgmcjgoipaaWireD
import Derived.Test.YtcgajgmcjgoipaaLibM
import Derived.Test.YtcgajgmcjgoipaaWalkFnExactPassWire
namespace Go.Proofs.Ytcgajgmcjgoipaa.Pure
open Go.RowKit Go.Proofs.Ytcgajgmcjgoipaa.PAll Go.Proofs.YtcgajgmcjgoipaaW.PrintWords Go.Proofs.YtcgajgmcjgoipaaW.PrintLast Go.Proofs.YtcgajgmcjgoipaaW.PrintMore Go.Proofs.Ytcgajgmcjgoipaa.Base

theorem rows_rd (L : List (List Int)) (i : Nat) : rd_L4 L (i : Int) = rdL L i := by rw [rdL2_eq, Int.toNat_natCast]; rfl
theorem mem_total {L : List (List Int)} {b : List Int} (h : b ∈ L) : b.length ≤ total L := by
  induction L with
  | nil => cases h
  | cons a L ih =>
    rw [total]
    rcases List.mem_cons.1 h with rfl | h
    · omega
    · have := ih h
      omega
theorem total_le {L : List (List Int)} {n : Nat} (h : ∀ b ∈ L, b.length ≤ n) : total L ≤ L.length * n := by
  induction L with
  | nil => simp [total]
  | cons a L ih =>
    have h1 := h a List.mem_cons_self
    have h2 := ih (fun b hb => h b (List.mem_cons_of_mem _ hb))
    rw [total, List.length_cons, Nat.add_mul, Nat.one_mul]
    omega

theorem sz_loop (L : List (List Int)) (hb : ∀ b ∈ L, b.length ≤ 9223372036854775807) (d : Nat) : ∀ (i : Nat) (left : Int), i + d = L.length → L.length ≤ 1048576 → 0 ≤ left → left + (total (L.take i) : Int) + (L.length : Int) = 1048576 →
    ∃ s, Ev (fun k => laws_szByteSS.l0 k L left (i : Int)) s ∧ (0 ≤ s → total L ≤ 1048576) := by
  induction d with
  | zero =>
    intro i left hi hL h0 he
    refine ⟨left, Ev.succ ?_, fun _ => ?_⟩
    · simp only [laws_szByteSS.l0]
      exact Ev.neg (by omega) (Ev.now _)
    · rw [List.take_of_length_le (by omega)] at he
      omega
  | succ d ih =>
    intro i left hi hL h0 he
    have hm : rdL L i ∈ L := by rw [rdL_get L i (by omega)]; exact List.getElem_mem _
    have hbl := hb _ hm
    have ht := total_take L i (by omega)
    have hw : wrap64 (left - ((rdL L i).length : Int)) = left - ((rdL L i).length : Int) := w64 (by omega) (by omega)
    by_cases hlt : left - ((rdL L i).length : Int) < 0
    · refine ⟨-1, Ev.succ ?_, fun h => absurd h (by decide)⟩
      simp only [laws_szByteSS.l0]
      refine Ev.pos (by omega) (Ev.pos (by omega) (Ev.bindc (a := -1) ?_ (Ev.pos (by decide) (Ev.now _))))
      unfold laws_szByteS.f
      rw [rows_rd, hw, if_pos hlt]
    · obtain ⟨s, h1, h2⟩ := ih (i + 1) (left - ((rdL L i).length : Int)) (by omega) hL (by omega) (by omega)
      refine ⟨s, Ev.succ ?_, h2⟩
      simp only [laws_szByteSS.l0]
      rw [succ_i i (by omega)]
      refine Ev.pos (by omega) (Ev.pos (by omega) (Ev.bindc (a := left - ((rdL L i).length : Int)) ?_ (Ev.neg hlt h1)))
      unfold laws_szByteS.f
      rw [rows_rd, hw, if_neg hlt]
theorem sz_ev (L : List (List Int)) (hL : L.length ≤ 9223372036854775807) (hb : ∀ b ∈ L, b.length ≤ 9223372036854775807) : ∃ s, Ev (fun k => laws_szByteSS.f k L 1048576) s ∧ (0 ≤ s → L.length ≤ 1048576 ∧ total L ≤ 1048576) := by
  have hw : wrap64 (1048576 - (L.length : Int)) = 1048576 - (L.length : Int) := w64 (by omega) (by omega)
  unfold laws_szByteSS.f
  rw [hw]
  by_cases h : 1048576 - (L.length : Int) < 0
  · exact ⟨-1, Ev.pos h (Ev.now _), fun h => absurd h (by decide)⟩
  · obtain ⟨s, h1, h2⟩ := sz_loop L hb L.length 0 (1048576 - (L.length : Int)) (by omega) (by omega) (by omega) (by simp [total])
    exact ⟨s, Ev.neg h h1, fun hs => ⟨by omega, h2 hs⟩⟩
theorem toSS_loop (L : List (List Int)) (hL : L.length ≤ 1048576) (hb : ∀ b ∈ L, b.length ≤ 1048576) (d : Nat) : ∀ (i : Nat) (x : List (List Int)), x.length = L.length → i + d = L.length → (∀ j, j < i → x[j]? = L[j]?) → Ev (fun k => laws_toByteSS.l0 k L x (i : Int)) L := by
  induction d with
  | zero =>
    intro i x h1 h2 h3
    refine Ev.succ ?_
    simp only [laws_toByteSS.l0]
    refine Ev.neg (by omega) (Ev.eq (Ev.now _) ?_)
    refine List.ext_getElem? fun j => ?_
    by_cases hj : j < i
    · exact h3 j hj
    · rw [List.getElem?_eq_none (by omega), List.getElem?_eq_none (by omega)]
  | succ d ih =>
    intro i x h1 h2 h3
    have hm : rdL L i ∈ L := by rw [rdL_get L i (by omega)]; exact List.getElem_mem _
    have h4 := ih (i + 1) (x.set i (rdL L i)) (by rw [List.length_set]; exact h1) (by omega) (fun j hj => by
      rw [List.getElem?_set]
      by_cases e : i = j
      · subst e
        rw [if_pos rfl, if_pos (by omega), rdL_get L i (by omega), List.getElem?_eq_getElem]
      · rw [if_neg e]
        exact h3 j (by omega))
    refine Ev.succ ?_
    simp only [laws_toByteSS.l0]
    rw [succ_i i (by omega), rows_rd, Int.toNat_natCast]
    exact Ev.pos (by omega) (Ev.pos (by omega) (Ev.bind (toByteS_ev (rdL L i) (hb _ hm)) (Ev.pos (by omega) h4)))
theorem toSS_ev (L : List (List Int)) (hL : L.length ≤ 1048576) (hb : ∀ b ∈ L, b.length ≤ 1048576) : Ev (fun k => laws_toByteSS.f k L) L := by
  unfold laws_toByteSS.f
  rw [Int.toNat_natCast]
  exact Ev.pos (by omega) (Ev.pos (by omega) (toSS_loop L hL hb L.length 0 _ List.length_replicate (by omega) (fun j hj => absurd hj (Nat.not_lt_zero _))))
theorem eqSS_loop (L : List (List Int)) (hL : L.length ≤ 1048576) (hb : ∀ b ∈ L, b.length ≤ 1048576) (d : Nat) : ∀ i : Nat, i + d = L.length → Ev (fun k => laws_eqByteSS.l0 k L L (i : Int)) true := by
  induction d with
  | zero =>
    intro i hi
    refine Ev.succ ?_
    simp only [laws_eqByteSS.l0]
    exact Ev.neg (by omega) (Ev.now _)
  | succ d ih =>
    intro i hi
    have hm : rdL L i ∈ L := by rw [rdL_get L i (by omega)]; exact List.getElem_mem _
    have := hb _ hm
    refine Ev.succ ?_
    simp only [laws_eqByteSS.l0]
    rw [succ_i i (by omega), rows_rd]
    exact Ev.pos (by omega) (Ev.pos (by omega) (Ev.pos (by omega) (Ev.bind (eqByteS_self (rdL L i) (by omega)) (Ev.pos rfl (ih (i + 1) (by omega))))))
theorem eqSS_self (L : List (List Int)) (hL : L.length ≤ 1048576) (hb : ∀ b ∈ L, b.length ≤ 1048576) : Ev (fun k => laws_eqByteSS.f k L L) true := by
  unfold laws_eqByteSS.f
  exact Ev.pos rfl (eqSS_loop L hL hb L.length 0 (by omega))
theorem lmarks_at (q : Nat) (L : List (List Int)) (i : Nat) (hi : i < L.length) : rdL (lmarks q L) i = bmarks (q + total (L.take i)) (rdL L i).length := by
  induction L generalizing q i with
  | nil => simp at hi
  | cons a L ih =>
    cases i with
    | zero => simp [rdL, lmarks, total]
    | succ i =>
      rw [lmarks, List.take_succ_cons, total, ← Nat.add_assoc]
      exact ih (q + a.length) i (by simpa using hi)
theorem heldSS_loop (q : Nat) (L : List (List Int)) (hL : L.length ≤ 1048576) (ht : q + total L ≤ 1099511627776) (d : Nat) : ∀ i : Nat, i + d = L.length → Ev (fun k => laws_heldByteSS.l0 k (lmarks q L) ((q + total (L.take i) : Nat) : Int) (i : Int)) ((q + total L : Nat) : Int) := by
  induction d with
  | zero =>
    intro i hi
    refine Ev.succ ?_
    simp only [laws_heldByteSS.l0]
    rw [lmarks_length]
    exact Ev.neg (by omega) (Ev.eq (Ev.now _) (by rw [List.take_of_length_le (by omega)]))
  | succ d ih =>
    intro i hi
    have h1 := ih (i + 1) (by omega)
    have h2 := total_take L i (by omega)
    have h3 := total_take_le L (i + 1)
    rw [h2, ← Nat.add_assoc] at h1
    refine Ev.succ ?_
    simp only [laws_heldByteSS.l0]
    rw [succ_i i (by omega), rows_rd, lmarks_length, lmarks_at q L i (by omega)]
    exact Ev.pos (by omega) (Ev.pos (by omega) (Ev.bind (heldByteS_ev (q + total (L.take i)) (rdL L i).length (by omega)) (Ev.neg (by omega) h1)))
theorem heldSS_ev (q : Nat) (L : List (List Int)) (hL : L.length ≤ 1048576) (ht : q + total L ≤ 1099511627776) : Ev (fun k => laws_heldByteSS.f k (lmarks q L) (q : Int)) ((q + total L : Nat) : Int) := by
  unfold laws_heldByteSS.f
  exact heldSS_loop q L hL ht L.length 0 (by omega)
theorem passI_rows (l : List Int) (L : List (List Int)) : ∀ b ∈ passI l L, b.length ≤ 600 := by
  intro b hb
  unfold passI at hb
  split at hb
  · rename_i h
    obtain ⟨x, _, rfl⟩ := List.mem_map.1 hb
    unfold impl_PassWire.g
    rw [passB_len, List.getD_eq_getElem?_getD]
    cases e : L[x.toNat]? with
    | none => simp
    | some c =>
      rw [Option.getD_some]
      obtain ⟨hx, rfl⟩ := List.getElem?_eq_some_iff.1 e
      exact of_decide_eq_true (List.all_eq_true.1 h.2 _ (List.getElem_mem hx))
  · cases hb
theorem Ev.some_ {α : Type} {g : Nat → Option α} {r : α} (h : Ev g r) : ∃ k, g k = some r := by
  obtain ⟨k, hk⟩ := h
  exact ⟨k, hk k (Nat.le_refl _)⟩

/-- The rows that came in, as one list of lists. -/
theorem rows_read {W : World} {a : Addr} {len cap : Nat} {A : Nat → Option Addr} {L C : Nat → Nat} {Z : Nat → List Int} (hl : len ≤ cap) (hm : cap ≤ maxLen)
    (h : ∀ r, r < cap → W.cell? (a.add r) = some (.slice (A r) (L r) (C r)) ∧ L r ≤ C r ∧ C r ≤ maxLen ∧ (Z r).length = C r ∧ (A r = none → C r = 0) ∧ ∀ a', A r = some a' → ∀ c, c < C r → W.cell? (a'.add c) = some (.int .u8 ((Z r).getD c 0))) :
    ∃ l1 : List (List Int), len = l1.length ∧ dL.C W (some a) l1.length l1 ∧ l1.length ≤ cap ∧ ∀ b ∈ l1, b.length ≤ 9223372036854775807 := by
  have hmax : maxLen ≤ 9223372036854775807 := by decide
  have hlen : ((List.range len).map fun r => (Z r).take (L r)).length = len := by simp
  have hget : ∀ (j : Nat) (p : List Int), ((List.range len).map fun r => (Z r).take (L r))[j]? = some p → j < len ∧ p = (Z j).take (L j) := fun j p hj => by
    have hjl : j < len := by
      have := (List.getElem?_eq_some_iff.1 hj).1
      omega
    rw [List.getElem?_map, List.getElem?_range hjl] at hj
    exact ⟨hjl, (Option.some.inj hj).symm⟩
  refine ⟨(List.range len).map fun r => (Z r).take (L r), hlen.symm, ⟨rfl, by omega, fun _ => ⟨a, rfl, fun j p hj => ?_⟩⟩, by omega, fun b hb => ?_⟩
  · obtain ⟨hjl, rfl⟩ := hget j p hj
    obtain ⟨h1, h2, h3, h4, h5, h6⟩ := h j (by omega)
    have hp : ((Z j).take (L j)).length = L j := by rw [List.length_take]; omega
    refine ⟨[.slice (A j) (L j) (C j)], rfl, ⟨A j, C j, by rw [hp], by omega, Kd.C_of_reads (d := (0 : Int)) (h1 := fun _ => rfl) ⟨rfl, by omega, fun h0 => ?_⟩⟩, fun i u hu => ?_⟩
    · rw [hp] at h0
      cases e : A j with
      | none => have := h5 e; omega
      | some ad =>
        refine ⟨ad, rfl, fun i hi => ?_⟩
        rw [hp] at hi
        rw [h6 ad e i (by omega)]
        congr 2
        rw [List.getD_eq_getElem?_getD, List.getD_eq_getElem?_getD, List.getElem?_take, if_pos hi]
    · cases i with
      | zero =>
        have hu' : Value.slice (A j) (L j) (C j) = u := by simpa using hu
        subst hu'
        show W.cell? (a.add (j * 1 + 0)) = _
        rw [Nat.mul_one, Nat.add_zero]
        exact h1
      | succ i => simp at hu
  · obtain ⟨r, hr, rfl⟩ := List.mem_map.1 hb
    have := List.mem_range.1 hr
    obtain ⟨_, _, h3, h4, _, _⟩ := h r (by omega)
    rw [List.length_take]
    omega

set_option maxHeartbeats 2000000 in
set_option maxRecDepth 100000 in
theorem exactPass_long (A0 : Option Addr) (c0 n0 : Nat) (v : Value) (w : World) (h : 1048576 < n0) : Calls Try.prog 9 #[.slice A0 n0 c0, v] w fun e w' => e = .returned (.bool true) ∧ Below w.heap.size w w' := by
  have hz : (1048576 : Int) < (n0 : Int) := by omega
  go_enter Try.func9, Try.ntmps9
  go_wp2
  go_ret
  exact ⟨rfl, Below.refl _ _⟩
set_option maxHeartbeats 2000000 in
set_option maxRecDepth 100000 in
theorem exactPass_big (A0 : Option Addr) (c0 n0 : Nat) (A1 : Option Addr) (c1 n1 : Nat) (w : World) (h : ¬ 1048576 < n0) (s : Int) (hs : s < 0)
    (hsz : Calls Try.prog 34 #[.slice A1 n1 c1, .int .i64 1048576] w fun e w' => e = .returned (.int .i64 s) ∧ Drawn0 w w') :
    Calls Try.prog 9 #[.slice A0 n0 c0, .slice A1 n1 c1] w fun e w' => e = .returned (.bool true) ∧ Below w.heap.size w w' := by
  have hz : ¬ (1048576 : Int) < (n0 : Int) := by omega
  go_enter Try.func9, Try.ntmps9
  go_wp2_with (go_at_call 34; refine hsz.mono ?_; rintro e w' ⟨rfl, ⟨nd, rfl⟩⟩)
  go_ret
  exact ⟨rfl, pw_below_drewN (Below.refl _ _) _⟩

/-- The law answers true, whatever came in. -/
theorem exactPass_run (A0 : Option Addr) (c0 : Nat) (l0 : List Int) (A1 : Option Addr) (c1 : Nat) (l1 : List (List Int)) (w : World) (hr0 : Kd.C (Kd.int .i64) w A0 l0.length l0) (hc0 : l0.length ≤ c0) (hr1 : dL.C w A1 l1.length l1) (hc1 : l1.length ≤ c1) (hrow : ∀ b ∈ l1, b.length ≤ 9223372036854775807) :
    Calls Try.prog 9 #[.slice A0 l0.length c0, .slice A1 l1.length c1] w fun e w' => e = .returned (.bool true) ∧ Below w.heap.size w w' := by
  by_cases h : 1048576 < l0.length
  · exact exactPass_long A0 c0 l0.length _ w h
  · obtain ⟨s, hs, hs2⟩ := sz_ev l1 hr1.2.1 hrow
    obtain ⟨k, hk⟩ := Ev.some_ hs
    by_cases h0 : s < 0
    · exact exactPass_big A0 c0 l0.length A1 c1 l1.length w h s h0 (laws_szByteSS.calls k A1 c1 l1 1048576 s w hr1 hc1 hk)
    · obtain ⟨hl1, ht1⟩ := hs2 (by omega)
      have hb1 : ∀ b ∈ l1, b.length ≤ 1048576 := fun b hb => Nat.le_trans (mem_total hb) ht1
      have hg1 := passI_len l0 l1
      have hg2 : ∀ b ∈ passI l0 l1, b.length ≤ 1048576 := fun b hb => Nat.le_trans (passI_rows l0 l1 b hb) (by omega)
      have htg : total (passI l0 l1) ≤ 1000000 := by
        have h1 := total_le (passI_rows l0 l1)
        have h2 := Nat.mul_le_mul_right 600 hg1
        omega
      have hl0 : l0.length ≤ 1048576 := by omega
      exact exactPass_walk A0 c0 l0 A1 c1 l1 w hr0 hc0 hr1 hc1 (passI l0 l1) hl0 (by omega) (by omega) ⟨k, s, hk, by omega⟩ (Ev.some_ (toIntS_ev l0 hl0)) (Ev.some_ (toSS_ev l1 hl1 hb1))
        (Ev.some_ (specPass l0 l1 (by omega) (by omega))) (implPass l0 l1) (Ev.some_ (eqSS_self _ (by omega) hg2)) (Ev.some_ (eqSS_self l1 hl1 hb1)) (Ev.some_ (eqIntS_self l0 (by omega)))
        (by
          obtain ⟨k2, hk2⟩ := Ev.some_ (markIntS_ev l0 1 (by omega))
          exact ⟨k2, _, hk2⟩) (fun m b hm => Ev.some_ (markByteS_ev b m hm)) (Ev.some_ (heldSS_ev 1 _ (by omega) (by omega)))

end Go.Proofs.Ytcgajgmcjgoipaa.Pure
