/-
  What impl.PassWire calls: are all messages data; the copy of one message, its first bit turned where its fate says so.
  One message as it arrives; impl.mapped over numbers with a function that makes rows; impl.PassWire.
-/
import Derived.Test.YtcgajgmcjgoipaaHandBase
import Derived.Test.YtcgajgmcjgoipaaWMore
import Derived.Test.YtcgajgmcjgoipaaWLast
import Derived.Test.YtcgajgmcjgoipaaWApart
import Derived.Test.YtcgajgmcjgoipaaProg
set_option linter.unusedSimpArgs false
namespace Go.Proofs.Ytcgajgmcjgoipaa.Base
open Go.RowKit Go.Proofs.YtcgajgmcjgoipaaW.PrintWords Go.Proofs.YtcgajgmcjgoipaaW.PrintLast Go.Proofs.YtcgajgmcjgoipaaW.PrintMore

abbrev dL : Kd (List Int) := Kd.slice 5 (Kd.int .u8)
def rdL (xs : List (List Int)) (i : Nat) : List Int := xs.getD i []
theorem rdL_get (xs : List (List Int)) (i : Nat) (h : i < xs.length) : rdL xs i = xs[i] := by simp [rdL, h]
theorem atL {w : World} {A : Option Addr} {n : Nat} {xs : List (List Int)} (h : dL.C w A n xs) (i : Nat) (hi : i < n) :
    ∃ ad A0 c0, A = some ad ∧ w.cell? (ad.add i) = some (.slice A0 (rdL xs i).length c0) ∧ (rdL xs i).length ≤ c0 ∧ (Kd.int .u8).C w A0 (rdL xs i).length (rdL xs i) := by
  obtain ⟨ad, c, e, _, hK, hc0⟩ := Kd.C_get h ([] : List Int) (i : Int) (by omega) (by omega)
  rw [Int.toNat_natCast] at hK hc0
  have hc : ∀ j u, c[j]? = some u → w.cell? (ad.add (i * 1 + j)) = some u := hc0
  obtain ⟨A0, c0, rfl, l0, g0⟩ := hK
  exact ⟨ad, A0, c0, e, by have hq := hc 0 _ rfl; rwa [Nat.mul_one, Nat.add_zero] at hq, l0, g0⟩

/-! ### are all data -/
theorem isData_calls (A : Option Addr) (n c : Nat) (W : World) : Calls Try.prog 61 #[.slice A n c] W fun e w' => e = .returned (.bool (decide (n ≤ 600))) ∧ W = w' := by
  by_cases h : n ≤ 600
  · have h2 : decide ((n : Int) ≤ 600) = true := decide_eq_true (by omega)
    rw [decide_eq_true h]
    go_enter Try.func61, Try.ntmps61
    go_wp2
    go_ret
    exact ⟨by first | rfl | simp [h2], rfl⟩
  · have h2 : decide ((n : Int) ≤ 600) = false := decide_eq_false (by omega)
    rw [decide_eq_false h]
    go_enter Try.func61, Try.ntmps61
    go_wp2
    go_ret
    exact ⟨by first | rfl | simp [h2], rfl⟩
theorem notData_calls (A : Option Addr) (n c B : Nat) (W : World) (hB : W.cell? ⟨B, 0, none⟩ = some (.func (.func 61) #[] #[])) :
    Calls Try.prog 91 #[.slice A n c, .pointer (some ⟨B, 0, none⟩)] W fun e w' => e = .returned (.bool (!decide (n ≤ 600))) ∧ W = w' := by
  have hcall := isData_calls A n c W
  generalize decide (n ≤ 600) = y at hcall ⊢
  have e61 : ∀ args w, (callFunc 61 args).run Try.prog w = .ok (.enter 61 args) w := enters_of Try.func61 (by kernel_rfl) rfl
  go_enter Try.func91, Try.ntmps91
  go_wp2_with (go_at_fn 61; refine hcall.mono ?_; rintro e w' ⟨rfl, rfl⟩)
  go_ret
  exact ⟨rfl, rfl⟩
def nd (x : List Int) : Bool := !decide (x.length ≤ 600)
theorem idx_hitL (p : List Int → Bool) (l : List (List Int)) (k : Nat) (hk : k < l.length) (h : p (rdL l k) = true) (hb : ∀ j, j < k → p (rdL l j) = false) : idx p l = k := by
  have ha : l.any p = true := List.any_eq_true.2 ⟨l[k], List.getElem_mem hk, by rw [← rdL_get l k hk]; exact h⟩
  unfold idx
  rw [if_pos ha]
  have : l.findIdx p = k := by
    rw [List.findIdx_eq hk]
    exact ⟨by rw [← rdL_get l k hk]; exact h, fun j hj => by rw [← rdL_get l j (by omega)]; simp [hb j hj]⟩
  rw [this]
theorem idx_missL (p : List Int → Bool) (l : List (List Int)) (hb : ∀ j, j < l.length → p (rdL l j) = false) : idx p l = -1 := by
  unfold idx
  rw [if_neg]
  intro ha
  obtain ⟨x, hx, hp⟩ := List.any_eq_true.1 ha
  obtain ⟨j, hj, rfl⟩ := List.getElem_of_mem hx
  rw [← rdL_get l j hj, hb j hj] at hp
  cases hp
set_option maxHeartbeats 2000000 in
set_option maxRecDepth 100000 in
theorem indexL_calls (B : Nat) (A0 : Option Addr) (c0 : Nat) (l0 : List (List Int)) (w : World) (hr0 : dL.C w A0 l0.length l0) (hbig : l0.length < 4611686018427387904) (hB : w.cell? ⟨B, 0, none⟩ = some (.func (.func 61) #[] #[])) :
    Calls Try.prog 96 #[.slice A0 l0.length c0, .func (.func 91) #[] #[.pointer (some ⟨B, 0, none⟩)]] w fun e w' => e = .returned (.int .i64 (idx nd l0)) ∧ ∃ q, w' = w.drewN q := by
  have e91 : ∀ args w, (callFunc 91 args).run Try.prog w = .ok (.enter 91 args) w := enters_of Try.func91 (by kernel_rfl) rfl
  have HR0 := Aside0.mk hr0
  have HB := Aside0.mk hB
  clear hr0 hB
  obtain ⟨n, hn⟩ : ∃ n, n = l0.length := ⟨_, rfl⟩
  have HN := Aside0.mk hn
  rw [← hn] at hbig ⊢
  clear hn
  go_enter Try.func96, Try.ntmps96
  go_wp2
  go_loopg [5, 8] n (fun gg _ s8 wr => ∃ kk q : Nat, kk ≤ n ∧ n - kk ≤ gg ∧ s8 = .int .i64 kk ∧ wr = w.drewN q ∧ Aside0 (∀ j, j < kk → nd (rdL l0 j) = false))
  case atStart => exact ⟨0, 0, Nat.zero_le _, by omega, rfl, rfl, ⟨fun j hj => absurd hj (Nat.not_lt_zero _)⟩⟩
  case round =>
    obtain ⟨kk, q, hkk, hg, rfl, rfl, A⟩ := hrel
    by_cases hlt : kk < n
    · have hltz : (kk : Int) < (n : Int) := by omega
      obtain ⟨ad, A1, c1, rfl, hcell, hl1, hc1⟩ := atL HR0.out kk (by have := HN.out; omega)
      have hcall := fun q => notData_calls A1 (rdL l0 kk).length c1 B (w.drewN q) HB.out
      have HND := Aside0.mk (show nd (rdL l0 kk) = !decide ((rdL l0 kk).length ≤ 600) from rfl)
      clear hc1 hl1
      generalize (rdL l0 kk).length = m at hcell hcall HND
      cases hq : decide (m ≤ 600) with
      | false =>
        rw [hq] at hcall HND
        clear hq
        go_wp2_with (go_at_fn 91; refine (hcall _).mono ?_; rintro e w' ⟨rfl, rfl⟩)
        go_ret
        refine ⟨?_, _, rfl⟩
        rw [idx_hitL nd l0 kk (by have := HN.out; omega) (by rw [HND.out]; rfl) A.out]
        rfl
      | true =>
        rw [hq] at hcall HND
        clear hq
        go_wp2_with (go_at_fn 91; refine (hcall _).mono ?_; rintro e w' ⟨rfl, rfl⟩)
        go_roundg (n - (kk + 1))
        case measure => omega
        case rel =>
          refine ⟨kk + 1, _, by omega, by omega, by go_num, rfl, ⟨fun j hj => ?_⟩⟩
          by_cases e : j = kk
          · subst e
            rw [HND.out]; rfl
          · exact A.out j (by omega)
    · have hltz : ¬ (kk : Int) < (n : Int) := by omega
      obtain rfl : kk = n := by omega
      go_wp2
      go_ret
      refine ⟨?_, q, rfl⟩
      rw [idx_missL nd l0 (fun j hj => A.out j (by have := HN.out; omega))]
      rfl
theorem containsL_calls (B : Nat) (A0 : Option Addr) (c0 : Nat) (l0 : List (List Int)) (w : World) (hr0 : dL.C w A0 l0.length l0) (hbig : l0.length < 4611686018427387904) (hB : w.cell? ⟨B, 0, none⟩ = some (.func (.func 61) #[] #[])) :
    Calls Try.prog 90 #[.slice A0 l0.length c0, .func (.func 91) #[] #[.pointer (some ⟨B, 0, none⟩)]] w fun e w' => e = .returned (.bool (l0.any nd)) ∧ ∃ q, w' = w.drewN q := by
  rw [← idx_any nd l0]
  have hcon := indexL_calls B A0 c0 l0 w hr0 hbig hB
  clear hr0 hB
  generalize idx nd l0 = ix at hcon ⊢
  generalize l0.length = n at hcon ⊢
  go_enter Try.func90, Try.ntmps90
  go_wp2_with (go_at_call 96; refine hcon.mono ?_; rintro e w' ⟨rfl, q, rfl⟩)
  go_ret
  exact ⟨rfl, q, rfl⟩
theorem allL_calls (A0 : Option Addr) (c0 : Nat) (l0 : List (List Int)) (w : World) (hr0 : dL.C w A0 l0.length l0) (hbig : l0.length < 4611686018427387904) :
    Calls Try.prog 60 #[.slice A0 l0.length c0, .func (.func 61) #[] #[]] w fun e w' => e = .returned (.bool (l0.all fun x => decide (x.length ≤ 600))) ∧ Below w.heap.size w w' := by
  have hbl := (Below.refl w.heap.size w).alloc (Nat.le_refl _) (.cells #[.func (.func 61) #[] #[]] 39)
  have hcon := containsL_calls w.heap.size A0 c0 l0 (w.alloc (.cells #[.func (.func 61) #[] #[]] 39)) (Kd.C_below hr0 hbl) hbig (by simp)
  clear hr0 hbl hbig
  rw [all_any]
  change Calls _ _ _ _ (fun e w' => e = .returned (.bool (l0.any fun x => !decide (x.length ≤ 600))) ∧ _) at hcon
  generalize l0.any (fun x => !decide (x.length ≤ 600)) = y at hcon ⊢
  generalize l0.length = n at hcon ⊢
  go_enter Try.func60, Try.ntmps60
  go_wp2_with (go_at_call 90; refine hcon.mono ?_; rintro e w' ⟨rfl, q, rfl⟩)
  go_ret
  exact ⟨rfl, pw_below_drewN ((Below.refl _ w).alloc (Nat.le_refl _) _) q⟩

end Go.Proofs.Ytcgajgmcjgoipaa.Base

namespace Go.Proofs.Ytcgajgmcjgoipaa.Base
open Go.RowKit Go.Proofs.YtcgajgmcjgoipaaW.PrintWords Go.Proofs.YtcgajgmcjgoipaaW.PrintLast Go.Proofs.YtcgajgmcjgoipaaW.PrintMore

/-- A message behind its fate. -/
def passB (f : Int) (b : List Int) : List Int := if f = 4 ∧ 0 < b.length then b.set 0 (Go.bits .xor .u8 (rd b 0) 128) else b
theorem passB_len (f : Int) (b : List Int) : (passB f b).length = b.length := by
  unfold passB
  split <;> simp

set_option maxHeartbeats 4000000 in
set_option maxRecDepth 100000 in
theorem pass1_calls (f : Int) (i : Nat) (L : List (List Int)) (AL : Option Addr) (cl : Nat) (A0 : Option Addr) (len c0 b1 b2 : Nat) (W : World)
    (h1 : W.cell? ⟨b1, 0, none⟩ = some (.slice AL L.length cl)) (h2 : W.cell? ⟨b2, 0, none⟩ = some (.slice A0 len c0)) (hC : dL.C W AL L.length L) (hi : i < L.length)
    (hclone : ∀ (A : Option Addr) (c : Nat) (l : List Int) (W' : World), Kd.C (Kd.int .u8) W' A l.length l → l.length ≤ c → l.length = (rdL L i).length → Calls Try.prog 64 #[.slice A l.length c] W' fun e w' => ∃ v : Value, e = .returned v ∧ Kd.R (Kd.int .u8) 5 w' W'.heap.size (fun _ => True) v l ∧ Below W'.heap.size W' w')
    (hfate : ∀ W', Below W.heap.size W W' → Calls Try.prog 65 #[.slice A0 len c0, .int .i64 i] W' fun e w' => e = .returned (.int .i64 f) ∧ Drawn0 W' w') :
    Calls Try.prog 63 #[.int .i64 i, .pointer (some ⟨b1, 0, none⟩), .pointer (some ⟨b2, 0, none⟩)] W fun e w' =>
      ∃ v : Value, e = .returned v ∧ Kd.R (Kd.int .u8) 5 w' W.heap.size (fun _ => True) v (passB f (rdL L i)) ∧ Below W.heap.size W w' := by
  obtain ⟨ad, A1, c1, rfl, hcell, hl1, hc1⟩ := atL hC i hi
  have hcl := hclone A1 c1 (rdL L i) W hc1 hl1 rfl
  clear hclone hc1 hl1 hC
  have hb1 : b1 < W.heap.size := World.block_lt_of_cell? W _ h1
  have hb2 : b2 < W.heap.size := World.block_lt_of_cell? W _ h2
  have HF := Aside0.mk hfate
  have H2 := Aside0.mk h2
  clear hfate
  generalize rdL L i = b at *
  generalize L.length = n at *
  have hiz : (i : Int) < (n : Int) := by omega
  obtain ⟨m, hm⟩ : ∃ m, m = b.length := ⟨_, rfl⟩
  have HM := Aside0.mk hm
  by_cases hf : f = 4 ∧ 0 < b.length
  · have HP : Aside0 (passB f b = b.set 0 (Go.bits .xor .u8 (rd b 0) 128)) := ⟨if_pos hf⟩
    obtain ⟨rfl, hpos⟩ := hf
    have hmp : 0 < m := by omega
    have hmz : (0 : Int) < (m : Int) := by omega
    rw [← hm] at hcl hcell
    clear hm hpos
    obtain ⟨x, hx⟩ : ∃ x, x = rd b 0 := ⟨_, rfl⟩
    rw [← hx] at HP
    have HX := Aside0.mk hx.symm
    clear hx
    go_enter Try.func63, Try.ntmps63
    go_wp2_with (first | (go_at_call 64; refine hcl.mono ?_; rintro e w1 ⟨v, rfl, ho, hb⟩; obtain ⟨g, cap, rfl, hgb, hgl, _⟩ := Kd.R_form ho (by have := HM.out; omega); rw [← HM.out] at ho ⊢; have HO := Aside0.mk ho; have HB := Aside0.mk hb; have hx0 : w1.cell? ⟨g, 0, none⟩ = some (.int .u8 x) := by { rw [← HX.out]; exact (Kd.R_celln 0 HO.out 0 (by omega) hmz).1 }; have hfz0 : w1.frozen? ⟨g, 0, none⟩ = false := (Kd.R_celln 0 HO.out 0 (by omega) hmz).2; have h2c : w1.cell? ⟨b2, 0, none⟩ = some (.slice A0 len c0) := (hb.cell (p := ⟨b2, 0, none⟩) hb2).trans H2.out; clear ho hb hcl) | (go_at_call 65; refine (HF.out _ ?sd).mono ?_; (case sd => exact HB.out); rintro e w' ⟨rfl, ⟨nd, rfl⟩⟩))
    go_ret
    refine ⟨_, rfl, ?_, ?_⟩
    · rw [HP.out]
      exact (Kd.R_putn (Kd.R_drewN HO.out nd) 0 (Go.bits .xor .u8 x 128))
    · exact below_set (pw_below_drewN HB.out nd) hgb
  · have HP : Aside0 (passB f b = b) := ⟨if_neg hf⟩
    have hg : (f == 4) = false ∨ ((f == 4) = true ∧ m = 0) := by
      by_cases e : f = 4
      · exact Or.inr ⟨by rw [e]; rfl, by have : ¬ 0 < b.length := fun h => hf ⟨e, h⟩; omega⟩
      · exact Or.inl (beq_false_of_ne e)
    clear hf
    rw [← hm] at hcl hcell
    clear hm
    have fin : ∀ (v : Value) (w1 : World) (nd : Nat), Kd.R (Kd.int .u8) 5 w1 W.heap.size (fun _ => True) v b → Below W.heap.size W w1 → ∃ v_ : Value, Ending.returned v = .returned v_ ∧ Kd.R (Kd.int .u8) 5 (w1.drewN nd) W.heap.size (fun _ => True) v_ (passB f b) ∧ Below W.heap.size W (w1.drewN nd) := fun v w1 nd ho hb =>
      ⟨v, rfl, by rw [HP.out]; exact Kd.R_drewN ho nd, pw_below_drewN hb nd⟩
    have FIN := Aside0.mk fin
    clear fin
    rcases hg with hg | ⟨hg, rfl⟩
    · have hg2 : ¬ f = 4 := fun e => by rw [e] at hg; cases hg
      go_enter Try.func63, Try.ntmps63
      go_wp2_with (first | (go_at_call 64; refine hcl.mono ?_; rintro e w1 ⟨v, rfl, ho, hb⟩; have HO := Aside0.mk ho; have HB := Aside0.mk hb; have h2c : w1.cell? ⟨b2, 0, none⟩ = some (.slice A0 len c0) := (hb.cell (p := ⟨b2, 0, none⟩) hb2).trans H2.out; clear ho hb hcl) | (go_at_call 65; refine (HF.out _ ?sd).mono ?_; (case sd => exact HB.out); rintro e w' ⟨rfl, ⟨nd, rfl⟩⟩))
      go_ret
      exact FIN.out _ _ _ HO.out HB.out
    · obtain rfl : f = 4 := beq_iff_eq.1 hg
      clear hg
      go_enter Try.func63, Try.ntmps63
      go_wp2_with (first | (go_at_call 64; refine hcl.mono ?_; rintro e w1 ⟨v, rfl, ho, hb⟩; obtain ⟨A, c, rfl⟩ := Kd.R_slice ho; rw [← HM.out] at ho ⊢; have HO := Aside0.mk ho; have HB := Aside0.mk hb; have h2c : w1.cell? ⟨b2, 0, none⟩ = some (.slice A0 len c0) := (hb.cell (p := ⟨b2, 0, none⟩) hb2).trans H2.out; clear ho hb hcl) | (go_at_call 65; refine (HF.out _ ?sd).mono ?_; (case sd => exact HB.out); rintro e w' ⟨rfl, ⟨nd, rfl⟩⟩))
      go_ret
      exact FIN.out _ _ _ HO.out HB.out

end Go.Proofs.Ytcgajgmcjgoipaa.Base
