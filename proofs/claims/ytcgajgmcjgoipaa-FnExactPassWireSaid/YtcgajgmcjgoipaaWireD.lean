/- What the program's and the reference's PassWire answer, as one plain function; the draws of messages; a clear wire; the distance of one message from the other. -/
import Derived.Test.YtcgajgmcjgoipaaPAllx2
import Derived.Test.YtcgajgmcjgoipaaPAllx3
import Derived.Test.YtcgajgmcjgoipaaPAllx4
import Derived.Test.YtcgajgmcjgoipaaWireC
import Derived.Lib.Bytes
namespace Go.Proofs.Ytcgajgmcjgoipaa.Pure
open Go.RowKit Go.Proofs.Ytcgajgmcjgoipaa.PAll Go.Proofs.YtcgajgmcjgoipaaW.PrintWords Go.Proofs.YtcgajgmcjgoipaaW.PrintLast Go.Proofs.YtcgajgmcjgoipaaW.PrintMore Go.Proofs.Ytcgajgmcjgoipaa.Base

def allData (L : List (List Int)) : Bool := L.all fun x => decide (x.length ≤ 600)
/-- What arrives. -/
def passI (l : List Int) (L : List (List Int)) : List (List Int) := if sendI l (L.length : Int) = true ∧ allData L = true then (Stab.arr l L.length).map (impl_PassWire.g l L) else []
theorem implPass (l : List Int) (L : List (List Int)) : impl_PassWire.f l L = some (passI l L) := by
  unfold impl_PassWire.f passI allData
  rw [implSend, Option.bind_some]
  by_cases h : sendI l (L.length : Int) = true ∧ (L.all fun x => decide (x.length ≤ 600)) = true
  · rw [if_pos h, if_pos h]
  · rw [if_neg h, if_neg h]
theorem passI_len (l : List Int) (L : List (List Int)) : (passI l L).length ≤ 120 := by
  unfold passI
  split
  · rename_i h
    have h2 := (sendI_yes h.1).2
    rw [List.length_map, Stab.arr_len]
    have := Stab.pushes_len l L.length
    omega
  · simp
theorem rdL2_eq (L : List (List Int)) (i : Int) : rd_L4 L i = L.getD i.toNat [] := rfl
theorem all_dropL {p : List Int → Bool} (l : List (List Int)) (i : Nat) (h : ∀ j, j < i → p (l.getD j []) = true) (hi : i ≤ l.length) : l.all p = (l.drop i).all p := by
  induction i with
  | zero => simp
  | succ i ih =>
    rw [ih (fun j hj => h j (by omega)) (by omega), List.drop_eq_getElem_cons (by omega), List.all_cons]
    have := h i (by omega)
    rw [List.getD_eq_getElem?_getD, List.getElem?_eq_getElem (by omega), Option.getD_some] at this
    rw [this, Bool.true_and]
theorem specList_loop (L : List (List Int)) (hL : L.length ≤ 1099511627776) (d : Nat) : ∀ i : Nat, i + d = L.length → (∀ j, j < i → decide ((L.getD j []).length ≤ 600) = true) → Ev (fun k => spec_l4List.l0 k L (i : Int)) (allData L && decide (L.length ≤ 60)) := by
  induction d with
  | zero =>
    intro i hi h
    refine Ev.succ ?_
    simp only [spec_l4List.l0]
    refine Ev.neg (by omega) (Ev.eq (Ev.now _) ?_)
    have e : allData L = true := by
      unfold allData
      rw [all_dropL (p := fun x => decide (x.length ≤ 600)) L i h (by omega), List.drop_of_length_le (by omega)]
      rfl
    rw [e, Bool.true_and]
    exact decide_eq_decide.2 (by omega)
  | succ d ih =>
    intro i hi h
    have hd : spec_l1Data.f (rd_L4 L (i : Int)) = some (decide ((L.getD i []).length ≤ 600)) := by
      unfold spec_l1Data.f
      rw [rdL2_eq, Int.toNat_natCast]
      exact congrArg some (decide_eq_decide.2 (by omega))
    refine Ev.succ ?_
    simp only [spec_l4List.l0]
    rw [succ_i i (by omega)]
    refine Ev.pos (by omega) (Ev.pos (by omega) (Ev.bindc hd ?_))
    by_cases hx : (L.getD i []).length ≤ 600
    · refine Ev.pos (decide_eq_true hx) (ih (i + 1) (by omega) (fun j hj => ?_))
      by_cases e : j = i
      · subst e
        exact decide_eq_true hx
      · exact h j (by omega)
    · refine Ev.neg (by simpa using hx) (Ev.eq (Ev.now _) ?_)
      have e : allData L = false := by
        unfold allData
        have hg : L.getD i [] = L[i]'(by omega) := by rw [List.getD_eq_getElem?_getD, List.getElem?_eq_getElem (by omega), Option.getD_some]
        rw [all_dropL (p := fun x => decide (x.length ≤ 600)) L i h (by omega), List.drop_eq_getElem_cons (by omega), List.all_cons, ← hg, decide_eq_false hx, Bool.false_and]
      rw [e, Bool.false_and]
theorem specList (L : List (List Int)) (hL : L.length ≤ 1099511627776) : Ev (fun k => spec_l4List.f k L) (allData L && decide (L.length ≤ 60)) := by
  unfold spec_l4List.f
  exact specList_loop L hL L.length 0 (by omega) (fun j hj => absurd hj (Nat.not_lt_zero _))
theorem specFlip0 (b : List Int) (h : 0 < b.length) (hl : b.length ≤ 1000000) : spec_l1Flip.f b 0 = some (b.set 0 (Go.bits .xor .u8 (rd b 0) 128)) := by
  have e1 : wrap64 (Int.tdiv 0 8) = 0 := by decide +kernel
  have e2 : wrap64 (7 - Int.tmod 0 8) = 7 := by decide +kernel
  have e3 : shl .u8 1 7 = 128 := by decide +kernel
  unfold spec_l1Flip.f
  rw [Option.bind_some, if_pos (by simp; omega), Option.bind_some, List.nil_append, e1, e2, e3, if_pos (by omega), if_pos (by omega), if_pos (by omega)]
  rfl
theorem pass_take (l : List Int) (L : List (List Int)) (a : List Int) (i : Nat) (hi : i < a.length) : (a.take (i + 1)).map (impl_PassWire.g l L) = (a.take i).map (impl_PassWire.g l L) ++ [impl_PassWire.g l L (rd a (i : Int))] := by
  rw [List.take_add_one, List.map_append, List.getElem?_eq_getElem hi, rd_get a i hi]
  rfl
theorem specPass_loop (l : List Int) (L : List (List Int)) (a : List Int) (hL : ∀ b ∈ L, b.length ≤ 600) (ha : a.length ≤ 120) (hm : ∀ x ∈ a, 0 ≤ x ∧ x < L.length) (d : Nat) :
    ∀ i : Nat, i + d = a.length → Ev (fun k => spec_PassWire.l0 k l L ((a.take i).map (impl_PassWire.g l L)) a (i : Int)) (a.map (impl_PassWire.g l L)) := by
  induction d with
  | zero =>
    intro i hi
    refine Ev.succ ?_
    simp only [spec_PassWire.l0]
    exact Ev.neg (by omega) (Ev.eq (Ev.now _) (by rw [List.take_of_length_le (by omega)]))
  | succ d ih =>
    intro i hi
    have h1 := ih (i + 1) (by omega)
    rw [pass_take l L a i (by omega)] at h1
    have hx := hm (rd a (i : Int)) (by rw [rd_get a i (by omega)]; exact List.getElem_mem _)
    obtain ⟨x, hx0⟩ : ∃ x, rd a (i : Int) = x := ⟨_, rfl⟩
    rw [hx0] at h1 hx
    have hb : (L.getD x.toNat []).length ≤ 600 := by
      rw [List.getD_eq_getElem?_getD, List.getElem?_eq_getElem (by omega), Option.getD_some]
      exact hL _ (List.getElem_mem _)
    have hlen : ((a.take i).map (impl_PassWire.g l L)).length < 5864062014805 := by rw [List.length_map, List.length_take]; omega
    have hg : impl_PassWire.g l L x = passB (Stab.fateV l x) (L.getD x.toNat []) := rfl
    refine Ev.succ ?_
    simp only [spec_PassWire.l0]
    rw [succ_i i (by omega), hx0, rdL2_eq]
    rw [hg] at h1
    generalize L.getD x.toNat [] = b at h1 hb ⊢
    refine Ev.pos (by omega) (Ev.bindc rfl (Ev.pos (by omega) (Ev.pos (by omega) (Ev.pos (by omega) (Ev.pos (by simp; omega) (Ev.bindc rfl (Ev.bindc (specFate l x (by omega)) ?_)))))))
    rw [List.nil_append, fateI_V]
    unfold passB at h1
    by_cases f4 : Stab.fateV l x = 4
    · refine Ev.pos f4 ?_
      by_cases hp : 0 < b.length
      · rw [if_pos ⟨f4, hp⟩] at h1
        exact Ev.pos (by omega) (Ev.bindc (specFlip0 b hp (by omega)) (Ev.pos hlen h1))
      · rw [if_neg (fun e => hp e.2)] at h1
        exact Ev.neg (by omega) (Ev.pos hlen h1)
    · rw [if_neg (fun e => f4 e.1)] at h1
      exact Ev.neg f4 (Ev.pos hlen h1)
theorem specPass (l : List Int) (L : List (List Int)) (hl : l.length ≤ 1099511627776) (hL : L.length ≤ 1099511627776) : Ev (fun k => spec_PassWire.f k l L) (passI l L) := by
  unfold spec_PassWire.f
  refine Ev.bindc rfl (Ev.bind (specList L hL) ?_)
  by_cases h : (allData L && decide (L.length ≤ 60)) = true
  · have h1 : allData L = true := (Bool.and_eq_true_iff.1 h).1
    have hd : ∀ b ∈ L, b.length ≤ 600 := fun b hb => of_decide_eq_true (List.all_eq_true.1 h1 b hb)
    refine Ev.pos h (Ev.bind (specArr l _ hl) ?_)
    have hm : ∀ x ∈ arrI l (L.length : Int), 0 ≤ x ∧ x < L.length := by
      intro x hx
      unfold arrI at hx
      split at hx
      · rw [Int.toNat_natCast] at hx
        exact Stab.arr_mem hx
      · cases hx
    have := specPass_loop l L (arrI l (L.length : Int)) hd (arrI_len l _) hm (arrI l (L.length : Int)).length 0 (by omega)
    refine Ev.eq this ?_
    unfold arrI passI
    by_cases hs : sendI l (L.length : Int) = true
    · rw [if_pos hs, if_pos ⟨hs, h1⟩, Int.toNat_natCast]
    · rw [if_neg hs, if_neg (fun e => hs e.1)]
      rfl
  · refine Ev.eq (Ev.neg h (Ev.now _)) ?_
    unfold passI
    rw [if_neg]
    rintro ⟨h1, h2⟩
    have := (sendI_yes h1).2
    exact h (by rw [h2, Bool.true_and]; exact decide_eq_true (by omega))

end Go.Proofs.Ytcgajgmcjgoipaa.Pure
