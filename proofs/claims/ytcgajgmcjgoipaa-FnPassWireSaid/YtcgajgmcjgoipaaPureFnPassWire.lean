/- For all bytes drawn from the law FnPassWire answers true: what arrives is what was sent, but for the broken messages, which differ in one bit each. No condition. -/
import Derived.Test.YtcgajgmcjgoipaaPAllx3
import Derived.Test.YtcgajgmcjgoipaaPAllx5
import Derived.Test.YtcgajgmcjgoipaaPAllx6
import Derived.Test.YtcgajgmcjgoipaaPAllx7
import Derived.Test.YtcgajgmcjgoipaaWireD
namespace Go.Proofs.Ytcgajgmcjgoipaa.Pure
open Go.RowKit Go.Proofs.Ytcgajgmcjgoipaa.PAll Go.Proofs.YtcgajgmcjgoipaaW.PrintWords Go.Proofs.YtcgajgmcjgoipaaW.PrintLast Go.Proofs.YtcgajgmcjgoipaaW.PrintMore Go.Proofs.Ytcgajgmcjgoipaa.Base

theorem xor_fin : ∀ m : Fin 256, Go.bits .xor .u8 ((m.1 : Nat) : Int) ((m.1 : Nat) : Int) = 0 ∧ Go.bits .xor .u8 (Go.bits .xor .u8 ((m.1 : Nat) : Int) 128) ((m.1 : Nat) : Int) = 128 := by decide +kernel
theorem xor_same (x : Int) (h : 0 ≤ x ∧ x < 256) : bits_OnesCount8.f (Go.bits .xor .u8 x x) = some 0 := by
  obtain ⟨n, rfl⟩ := Int.eq_ofNat_of_zero_le h.1
  have e := (xor_fin ⟨n, by omega⟩).1
  simp only at e
  rw [e]
  decide +kernel
theorem xor_turned (x : Int) (h : 0 ≤ x ∧ x < 256) : bits_OnesCount8.f (Go.bits .xor .u8 (Go.bits .xor .u8 x 128) x) = some 1 := by
  obtain ⟨n, rfl⟩ := Int.eq_ofNat_of_zero_le h.1
  have e := (xor_fin ⟨n, by omega⟩).2
  simp only at e
  rw [e]
  decide +kernel
/-- How far two messages are apart that differ in their first bytes alone, by q. -/
theorem dist_loop (a b : List Int) (hab : a.length = b.length) (hl : a.length ≤ 600) (q : Int) (hq : 0 ≤ q ∧ q ≤ 8) (h : ∀ i : Nat, i < a.length → bits_OnesCount8.f (Go.bits .xor .u8 (rd a (i : Int)) (rd b (i : Int))) = some (if i = 0 then q else 0)) (d : Nat) :
    ∀ i : Nat, i + d = a.length → Ev (fun k => impl_Distance.l0 k b (if i = 0 then 0 else q) a (a.length : Int) (i : Int)) (if a.length = 0 then 0 else q) := by
  induction d with
  | zero =>
    intro i hi
    refine Ev.succ ?_
    simp only [impl_Distance.l0]
    refine Ev.neg (by omega) (Ev.eq (Ev.now _) ?_)
    rw [show i = a.length by omega]
  | succ d ih =>
    intro i hi
    have h1 := ih (i + 1) (by omega)
    rw [if_neg (by omega)] at h1
    refine Ev.succ ?_
    simp only [impl_Distance.l0]
    rw [succ_i i (by omega)]
    refine Ev.pos (by omega) (Ev.pos (by omega) (Ev.pos (by omega) (Ev.pos (by omega) (Ev.bindc (h i (by omega)) ?_))))
    by_cases e : i = 0
    · rw [if_pos e, if_pos e, w64 (x := 0 + q) (by omega) (by omega), Int.zero_add]
      exact h1
    · rw [if_neg e, if_neg e, w64 (x := q + 0) (by omega) (by omega), Int.add_zero]
      exact h1
theorem implData (l : List Int) (h : l.length ≤ 600) : impl_isData.f l = some true := by
  unfold impl_isData.f
  rw [decide_eq_true (by omega)]
theorem dist_ev (a b : List Int) (hab : a.length = b.length) (hl : a.length ≤ 600) (q : Int) (hq : 0 ≤ q ∧ q ≤ 8) (h : ∀ i : Nat, i < a.length → bits_OnesCount8.f (Go.bits .xor .u8 (rd a (i : Int)) (rd b (i : Int))) = some (if i = 0 then q else 0)) :
    Ev (fun k => impl_Distance.f k a b) (if a.length = 0 then 0 else q) := by
  unfold impl_Distance.f
  refine Ev.bindc (implData a hl) (Ev.pos rfl (Ev.bindc (implData b (by omega)) (Ev.pos rfl ?_)))
  have hne : ((a.length : Int) != (b.length : Int)) = false := by rw [hab]; simp
  simp only [hne]
  refine Ev.succ ?_
  simp only [impl_Distance.j0]
  exact Ev.neg Bool.false_ne_true (dist_loop a b hab hl q hq h a.length 0 (by omega))
/-- A broken message is one bit apart, any other none. -/
theorem dist_pass (f : Int) (b : List Int) (hb : Bytes b) (hl : b.length ≤ 600) : Ev (fun k => impl_Distance.f k (passB f b) b) (if f = 4 ∧ 0 < b.length then 1 else 0) := by
  unfold passB
  by_cases h : f = 4 ∧ 0 < b.length
  · rw [if_pos h, if_pos h]
    have hlen : (b.set 0 (Go.bits .xor .u8 (rd b 0) 128)).length = b.length := List.length_set
    refine Ev.eq (dist_ev _ b hlen (by omega) 1 (by omega) (fun i hi => ?_)) (by rw [hlen, if_neg (by omega)])
    by_cases e : i = 0
    · subst e
      rw [if_pos rfl]
      have e2 : rd (b.set 0 (Go.bits .xor .u8 (rd b 0) 128)) ((0 : Nat) : Int) = Go.bits .xor .u8 (rd b 0) 128 := by
        rw [rd_nat, List.getD_eq_getElem?_getD, List.getElem?_set, if_pos rfl, if_pos h.2, Option.getD_some]
      rw [e2]
      exact xor_turned _ (hb.at_ 0)
    · rw [if_neg e]
      have e2 : rd (b.set 0 (Go.bits .xor .u8 (rd b 0) 128)) (i : Int) = rd b (i : Int) := by
        rw [rd_nat, rd_nat, List.getD_eq_getElem?_getD, List.getElem?_set, if_neg (by omega), ← List.getD_eq_getElem?_getD]
      rw [e2]
      exact xor_same _ (hb.at_ _)
  · rw [if_neg h, if_neg h]
    refine Ev.eq (dist_ev b b rfl hl 0 (by omega) (fun i hi => ?_)) (by split <;> rfl)
    rw [xor_same _ (hb.at_ _)]
    split <;> rfl
theorem passWire_loop (l : List Int) (L : List (List Int)) (hv : sendI l (L.length : Int) = true) (hd : allData L = true) (hb : BytesL L) (d : Nat) :
    ∀ i : Nat, i + d = (Stab.arr l L.length).length → Ev (fun k => laws_FnPassWire.l0 k l L (passI l L) (Stab.arr l L.length) ((Stab.arr l L.length).length : Int) (i : Int)) true := by
  have hp : passI l L = (Stab.arr l L.length).map (impl_PassWire.g l L) := if_pos ⟨hv, hd⟩
  have hpl : (passI l L).length = (Stab.arr l L.length).length := by rw [hp, List.length_map]
  have h120 := passI_len l L
  induction d with
  | zero =>
    intro i hi
    refine Ev.succ ?_
    simp only [laws_FnPassWire.l0]
    refine Ev.neg (by omega) (Ev.bindc (implArr l _) (Ev.eq (Ev.now _) ?_))
    unfold arrI
    rw [if_pos hv, Int.toNat_natCast, hpl]
    simp
  | succ d ih =>
    intro i hi
    have h1 := ih (i + 1) (by omega)
    have hmem : rd (Stab.arr l L.length) (i : Int) ∈ Stab.arr l L.length := by
      rw [rd_get _ i (by omega)]
      exact List.getElem_mem _
    have hm := Stab.arr_mem hmem
    obtain ⟨x, hx⟩ : ∃ x, rd (Stab.arr l L.length) (i : Int) = x := ⟨_, rfl⟩
    have hgot : rd_L2 (passI l L) (i : Int) = passB (Stab.fateV l x) (L.getD x.toNat []) := by
      rw [rdL2_eq, Int.toNat_natCast, hp, List.getD_eq_getElem?_getD, List.getElem?_map, List.getElem?_eq_getElem (show i < (Stab.arr l L.length).length by omega), ← hx, rd_get _ i (by omega)]
      rfl
    rw [hx] at hm
    have hin : x.toNat < L.length := by omega
    have hbb : Bytes (L.getD x.toNat []) ∧ (L.getD x.toNat []).length ≤ 600 := by
      rw [List.getD_eq_getElem?_getD, List.getElem?_eq_getElem hin, Option.getD_some]
      exact ⟨(hb _ (List.getElem_mem _)).1, of_decide_eq_true (List.all_eq_true.1 hd _ (List.getElem_mem _))⟩
    refine Ev.succ ?_
    simp only [laws_FnPassWire.l0]
    rw [hx, hgot, rdL2_eq, succ_i i (by omega)]
    generalize L.getD x.toNat [] = b at hbb ⊢
    refine Ev.pos (by omega) (Ev.pos (by omega) (Ev.pos (by omega) (Ev.pos (by omega) (Ev.pos (by omega) (Ev.pos (by omega) (Ev.bind (dist_pass (Stab.fateV l x) b hbb.1 hbb.2) (Ev.bindc (fateOf_in (sendI_yes hv).1 hm.1) ?_)))))))
    by_cases f4 : Stab.fateV l x = 4
    · refine Ev.pos f4 ?_
      by_cases hpos : 0 < b.length
      · rw [if_pos ⟨f4, hpos⟩]
        exact Ev.pos (by omega) (Ev.pos rfl (Ev.pos (by omega) h1))
      · rw [if_neg (fun e => hpos e.2)]
        exact Ev.neg (by omega) (Ev.neg (by omega) (Ev.pos rfl h1))
    · rw [if_neg (fun e => f4 e.1)]
      exact Ev.neg f4 (Ev.pos rfl h1)
theorem FnPassWire : laws_FnPassWire.Pure := by
  intro l h1 h2 h3
  refine Ev.rounds ?_
  unfold laws_FnPassWire.f
  have hb := wf_bytes h3
  by_cases h : (l.length : Int) > 1048576
  · exact Ev.pos h (Ev.now _)
  · obtain ⟨b, L, c1, c2, c3, c4⟩ := drawPass_ev l hb
    have hp := passI_len b L
    refine Ev.neg h (Ev.bind c4 (Ev.bindc (implPass b L) (Ev.bind (specPass b L (by omega) (by omega)) (Ev.bind (wnTexts_self (passI b L) (by omega)) (Ev.pos rfl ?_)))))
    by_cases hz : (passI b L).length = 0
    · have e : (((passI b L).length : Int) == 0) = true := by rw [hz]; rfl
      simp only [e]
      refine Ev.succ ?_
      simp only [laws_FnPassWire.j0]
      exact Ev.pos trivial (Ev.bind (specPass b L (by omega) (by omega)) (Ev.bind (wnTexts_self (passI b L) (by omega)) (Ev.now _)))
    · have e : (((passI b L).length : Int) == 0) = false := beq_false_of_ne (by omega)
      simp only [e]
      have hc : sendI b (L.length : Int) = true ∧ allData L = true := by
        refine Decidable.byContradiction fun hn => hz ?_
        unfold passI
        rw [if_neg hn]
        rfl
      refine Ev.succ ?_
      simp only [laws_FnPassWire.j0]
      refine Ev.neg Bool.false_ne_true (Ev.bindc (implArr b _) ?_)
      unfold arrI
      rw [if_pos hc.1, Int.toNat_natCast]
      exact passWire_loop b L hc.1 hc.2 c3 (Stab.arr b L.length).length 0 (by omega)
end Go.Proofs.Ytcgajgmcjgoipaa.Pure
