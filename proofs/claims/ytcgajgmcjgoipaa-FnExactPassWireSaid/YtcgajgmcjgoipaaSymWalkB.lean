/-
  slices.symMergeCmpFunc's two short ways: one element laid among the others.
-/
import Derived.Test.YtcgajgmcjgoipaaSymWalkA
namespace Go.Proofs.Ytcgajgmcjgoipaa.Stab
open Go.Shelf Go.RowKit Go.Lib Go.Sort
variable {P : Program} {k : Nat} {α : Type} [Inhabited α]

set_option maxHeartbeats 8000000 in
set_option maxRecDepth 1000000 in
theorem symFirst (L : Facts P k) (enc : α → List Value) (cf : α → α → Int) (hO : SWO (ltOf cf)) (g : Nat) (cb : Array Value) (eg : ∀ args w, (callFunc g args).run P w = .ok (.enter g args) w) (blk off cap : Nat) (d0 : Array α) (w0 : World) (hcmp : CmpLays P g cb enc k cf blk off d0.size w0) (R : RowK enc k w0 blk off d0) (a m b : Nat) (d : Array α) (w : World) (hs : d0.size = d.size) (S : SWK enc k w0 blk off d w)
    (ham : m = a + 1) (hmb : m < b) (hb : b ≤ d.size) (hsz : d.size < 4611686018427387904) (h2 : SortedIn (ltOf cf) m b d) :
    Calls P 98 #[.slice (some ⟨blk, off, none⟩) d.size cap, .int .i64 a, .int .i64 m, .int .i64 b, .func (.func g) #[] cb] w fun e w' =>
      e = .returned (.tuple #[]) ∧ ∃ d', SWK enc k w0 blk off d' w' ∧ PermIn a b d d' ∧ SortedIn (ltOf cf) a b d' := by
  have mixed := L.mixed; have t0 := L.t0; have a0 := L.a0; have z0 := L.z0; have v0 := L.v0; have t3 := L.t3; have a3 := L.a3; have z3 := L.z3; have v3 := L.v3; have t4 := L.t4; have a4 := L.a4; have z4 := L.z4; have v4 := L.v4; have t60 := L.t60; have a60 := L.a60; have z60 := L.z60; have v60 := L.v60; have t66 := L.t66; have a66 := L.a66; have z66 := L.z66; have v66 := L.v66; have t80 := L.t80; have a80 := L.a80; have z80 := L.z80; have v80 := L.v80; have aE := L.aE; have zE := L.zE
  have HC : Aside _ := hcmp
  have H2 : Hid (SortedIn (ltOf cf) m b d) := h2
  have S0 : Aside (SWK enc k w0 blk off d w) := S
  clear S hcmp h2
  have h1 : (m : Int) - (a : Int) = 1 := by omega
  have HA : Hid (m = a + 1) := ham
  have ham1 : m ≤ a + 1 := by omega
  have ham2 : a + 1 ≤ m := by omega
  clear ham
  go_enter L.f_sym, Try.ntmps98
  go_wp2
  go_loopg [10, 11] (b - m) (fun kx s10 s11 wr => ∃ (i j : Nat), s10 = .int .i64 i ∧ s11 = .int .i64 j ∧ m ≤ i ∧ i ≤ j ∧ j ≤ b ∧ j - i ≤ kx ∧ Aside (SWK enc k w0 blk off d wr) ∧ Hid (i = m ∨ ltOf cf d[i - 1]! d[a]! = true) ∧ Hid (j = b ∨ ltOf cf d[j]! d[a]! = false))
  case atStart => exact ⟨m, b, rfl, rfl, Nat.le_refl _, by omega, Nat.le_refl _, Nat.le_refl _, S0, Or.inl rfl, Or.inl rfl⟩
  case round =>
    clear S0
    obtain ⟨i, j, rfl, rfl, hmi, hij, hjb, hkx, S1, HL, HR⟩ := hrel
    by_cases hlt : i < j
    · have hltz : (i : Int) < (j : Int) := by omega
      obtain ⟨h, hh⟩ : ∃ h, h = (i + j) / 2 := ⟨_, rfl⟩
      have hz : ((i : Int) + (j : Int)) / 2 = (h : Int) := by omega
      have hhi : i ≤ h := by omega
      have hhj : h < j := by omega
      have ea1 : ((h : Int)).toNat = h := by omega
      have pa1 : (0 : Int) ≤ (h : Int) := by omega
      have ba1 : (h : Int) < (d.size : Int) := by omega
      have ra1 : IntKind.i64.wrap ((h : Int)) = (h : Int) := by rw [IntKind.wrap_i64]; omega
      have ec1 : ((a : Int)).toNat = a := by omega
      have pc1 : (0 : Int) ≤ (a : Int) := by omega
      have bc1 : (a : Int) < (d.size : Int) := by omega
      have rc1 : IntKind.i64.wrap ((a : Int)) = (a : Int) := by rw [IntKind.wrap_i64]; omega
      obtain ⟨x1, hx1⟩ : ∃ x, x = d[h]! := ⟨_, rfl⟩
      obtain ⟨y1, hy1⟩ : ∃ x, x = d[a]! := ⟨_, rfl⟩
      have l1a := S1.out.ld R (by omega) P (h) (by omega)
      have l1b := S1.out.ld R (by omega) P (a) (by omega)
      rw [← hx1] at l1a
      rw [← hy1] at l1b
      have hc1 := S1.out.cmp HC.out (by omega) x1 y1
      have XY : Hid (x1 = d[h]! ∧ y1 = d[a]!) := ⟨hx1, hy1⟩
      clear hx1 hy1
      clear hh
      by_cases hlv : cf x1 y1 < 0
      · have hv1 : cf x1 y1 < 0 := hlv
        have hd1 : decide (cf x1 y1 < 0) = true := decide_eq_true hv1
        go_wp2_with fail
        go_quiet_grown (first | (go_at_fn g; refine Calls.grown_of (hc1 _ _)))
        have S2 : Aside (SWK enc k w0 blk off d (grow (wr.drewN nq) osq)) := S1.out.grown nq osq
        clear l1a l1b hc1 S1
        generalize grow (wr.drewN nq) osq = w2 at S2 ⊢
        clear nq osq
        go_wp2
        go_roundg (j - (h + 1))
        case measure => omega
        case rel => exact ⟨h + 1, j, by go_num, rfl, by omega, by omega, hjb, by omega, S2, Or.inr (by rw [Nat.add_sub_cancel, ← XY.out.1, ← XY.out.2]; exact decide_eq_true (by omega)), HR⟩
      · have hv1 : ¬ cf x1 y1 < 0 := hlv
        have hd1 : decide (cf x1 y1 < 0) = false := decide_eq_false hv1
        go_wp2_with fail
        go_quiet_grown (first | (go_at_fn g; refine Calls.grown_of (hc1 _ _)))
        have S2 : Aside (SWK enc k w0 blk off d (grow (wr.drewN nq) osq)) := S1.out.grown nq osq
        clear l1a l1b hc1 S1
        generalize grow (wr.drewN nq) osq = w2 at S2 ⊢
        clear nq osq
        go_wp2
        go_roundg (h - i)
        case measure => omega
        case rel => exact ⟨i, h, rfl, rfl, hmi, hhi, by omega, by omega, S2, HL, Or.inr (by rw [← XY.out.1, ← XY.out.2]; exact decide_eq_false (by omega))⟩
    · have hltz : ¬ (i : Int) < (j : Int) := by omega
      obtain rfl : i = j := by omega
      go_wp2
      go_loopg [13] (i - 1 - a) (fun kx s13 wr2 => ∃ (q : Nat) (dk : Array α), s13 = .int .i64 q ∧ a ≤ q ∧ q ≤ i - 1 ∧ i - 1 - q ≤ kx ∧ dk.size = d.size ∧ Aside (SWK enc k w0 blk off dk wr2) ∧ Hid (RotEq a (a + 1) (q + 1) d dk ∧ PermIn a b d dk))
      case atStart => exact ⟨a, d, rfl, Nat.le_refl _, by omega, Nat.le_refl _, rfl, S1, rotEq_self _ _ _ _ (Or.inr ⟨by omega, rfl⟩), permIn_refl _ _ _⟩
      case round =>
        clear S1
        obtain ⟨q, dk, rfl, haq, hqi, hkq, hds, S1, HQ⟩ := hrel
        by_cases hlt2 : q < i - 1
        · have hltz2 : (q : Int) < (i : Int) - 1 := by omega
          have ea2 : ((q : Int)).toNat = q := by omega
          have pa2 : (0 : Int) ≤ (q : Int) := by omega
          have ba2 : (q : Int) < (d.size : Int) := by omega
          have ra2 : IntKind.i64.wrap ((q : Int)) = (q : Int) := by rw [IntKind.wrap_i64]; omega
          have ec2 : ((q : Int) + 1).toNat = q + 1 := by omega
          have pc2 : (0 : Int) ≤ (q : Int) + 1 := by omega
          have bc2 : (q : Int) + 1 < (d.size : Int) := by omega
          have rc2 : IntKind.i64.wrap ((q : Int) + 1) = (q : Int) + 1 := by rw [IntKind.wrap_i64]; omega
          have S2 : Aside (SWK enc k w0 blk off (swp dk (q) (q + 1)) ((wr.drew.setCells blk (off + (q) * k) (enc dk[q + 1]!)).setCells blk (off + (q + 1) * k) (enc dk[q]!))) := S1.out.swapped R (q) (q + 1) (by omega) (by omega)
          have l2a := S1.out.ld1 R (by omega) P (q) (by omega)
          have l2b := S1.out.ld1 R (by omega) P (q + 1) (by omega)
          have s2a := S1.out.st1 R (by omega) P (q) (by omega) dk[q + 1]!
          have s2b := S1.out.st2 R (by omega) P (q) (q + 1) (by omega) (by omega) dk[q + 1]! dk[q]!
          have n2a : (enc dk[q]!).length = k := R.hk _
          have n2b : (enc dk[q + 1]!).length = k := R.hk _
          generalize enc dk[q]! = cI2 at S2 l2a s2b n2a
          generalize enc dk[q + 1]! = cJ2 at S2 l2b s2a s2b n2b
          clear S1
          go_wp2_with fail
          go_big_region_o
          clear l2a l2b s2a s2b
          generalize (wr.drew.setCells blk (off + (q) * k) cJ2).setCells blk (off + (q + 1) * k) cI2 = w2 at S2 ⊢
          go_wp2
          go_roundg (i - 1 - (q + 1))
          case measure => omega
          case rel => exact ⟨q + 1, _, by go_num, by omega, by omega, Nat.le_refl _, by rw [swp_size, hds], S2, rot_one_right haq (by omega) HQ.out.1, permIn_trans _ _ _ _ _ HQ.out.2 (swp_permIn _ _ _ _ _ (by omega) (by omega) (by omega) (by omega) (by omega))⟩
        · have hltz2 : ¬ (q : Int) < (i : Int) - 1 := by omega
          obtain rfl : q = i - 1 := by omega
          go_wp2
          (try simp only [Exit.inBlock, Exit.then]); refine bodyPost_ret (results_none rfl _ _ _) rfl ?_
          have hq := HQ.out
          rw [show i - 1 + 1 = i by omega] at hq
          have ham := HA.out
          subst ham
          exact ⟨rfl, dk, S1.out, hq.2, merge_first hO hmi hjb H2.out HL.out HR.out hq.1⟩

set_option maxHeartbeats 8000000 in
set_option maxRecDepth 1000000 in
theorem symLast (L : Facts P k) (enc : α → List Value) (cf : α → α → Int) (hO : SWO (ltOf cf)) (g : Nat) (cb : Array Value) (eg : ∀ args w, (callFunc g args).run P w = .ok (.enter g args) w) (blk off cap : Nat) (d0 : Array α) (w0 : World) (hcmp : CmpLays P g cb enc k cf blk off d0.size w0) (R : RowK enc k w0 blk off d0) (a m b : Nat) (d : Array α) (w : World) (hs : d0.size = d.size) (S : SWK enc k w0 blk off d w)
    (ham : a + 1 < m) (hmb : b = m + 1) (hb : b ≤ d.size) (hsz : d.size < 4611686018427387904) (h2 : SortedIn (ltOf cf) a m d) :
    Calls P 98 #[.slice (some ⟨blk, off, none⟩) d.size cap, .int .i64 a, .int .i64 m, .int .i64 b, .func (.func g) #[] cb] w fun e w' =>
      e = .returned (.tuple #[]) ∧ ∃ d', SWK enc k w0 blk off d' w' ∧ PermIn a b d d' ∧ SortedIn (ltOf cf) a b d' := by
  have mixed := L.mixed; have t0 := L.t0; have a0 := L.a0; have z0 := L.z0; have v0 := L.v0; have t3 := L.t3; have a3 := L.a3; have z3 := L.z3; have v3 := L.v3; have t4 := L.t4; have a4 := L.a4; have z4 := L.z4; have v4 := L.v4; have t60 := L.t60; have a60 := L.a60; have z60 := L.z60; have v60 := L.v60; have t66 := L.t66; have a66 := L.a66; have z66 := L.z66; have v66 := L.v66; have t80 := L.t80; have a80 := L.a80; have z80 := L.z80; have v80 := L.v80; have aE := L.aE; have zE := L.zE
  have HC : Aside _ := hcmp
  have H2 : Hid (SortedIn (ltOf cf) a m d) := h2
  have S0 : Aside (SWK enc k w0 blk off d w) := S
  clear S hcmp h2
  have h0 : ¬ ((m : Int) - (a : Int) = 1) := by omega
  have h0b : ((m : Int) - (a : Int) == 1) = false := beq_false_of_ne h0
  have h1 : (b : Int) - (m : Int) = 1 := by omega
  have HA : Hid (b = m + 1) := hmb
  have hmb1 : b ≤ m + 1 := by omega
  have hmb2 : m + 1 ≤ b := by omega
  clear hmb
  go_enter L.f_sym, Try.ntmps98
  go_wp2
  go_loopg [14, 15] (m - a) (fun kx s10 s11 wr => ∃ (i j : Nat), s10 = .int .i64 i ∧ s11 = .int .i64 j ∧ a ≤ i ∧ i ≤ j ∧ j ≤ m ∧ j - i ≤ kx ∧ Aside (SWK enc k w0 blk off d wr) ∧ Hid (i = a ∨ ltOf cf d[m]! d[i - 1]! = false) ∧ Hid (j = m ∨ ltOf cf d[m]! d[j]! = true))
  case atStart => exact ⟨a, m, rfl, rfl, Nat.le_refl _, by omega, Nat.le_refl _, Nat.le_refl _, S0, Or.inl rfl, Or.inl rfl⟩
  case round =>
    clear S0
    obtain ⟨i, j, rfl, rfl, hmi, hij, hjb, hkx, S1, HL, HR⟩ := hrel
    by_cases hlt : i < j
    · have hltz : (i : Int) < (j : Int) := by omega
      obtain ⟨h, hh⟩ : ∃ h, h = (i + j) / 2 := ⟨_, rfl⟩
      have hz : ((i : Int) + (j : Int)) / 2 = (h : Int) := by omega
      have hhi : i ≤ h := by omega
      have hhj : h < j := by omega
      have ea1 : ((m : Int)).toNat = m := by omega
      have pa1 : (0 : Int) ≤ (m : Int) := by omega
      have ba1 : (m : Int) < (d.size : Int) := by omega
      have ra1 : IntKind.i64.wrap ((m : Int)) = (m : Int) := by rw [IntKind.wrap_i64]; omega
      have ec1 : ((h : Int)).toNat = h := by omega
      have pc1 : (0 : Int) ≤ (h : Int) := by omega
      have bc1 : (h : Int) < (d.size : Int) := by omega
      have rc1 : IntKind.i64.wrap ((h : Int)) = (h : Int) := by rw [IntKind.wrap_i64]; omega
      obtain ⟨x1, hx1⟩ : ∃ x, x = d[m]! := ⟨_, rfl⟩
      obtain ⟨y1, hy1⟩ : ∃ x, x = d[h]! := ⟨_, rfl⟩
      have l1a := S1.out.ld R (by omega) P (m) (by omega)
      have l1b := S1.out.ld R (by omega) P (h) (by omega)
      rw [← hx1] at l1a
      rw [← hy1] at l1b
      have hc1 := S1.out.cmp HC.out (by omega) x1 y1
      have XY : Hid (x1 = d[m]! ∧ y1 = d[h]!) := ⟨hx1, hy1⟩
      clear hx1 hy1
      clear hh
      by_cases hlv : cf x1 y1 < 0
      · have hv1 : cf x1 y1 < 0 := hlv
        have hd1 : decide (cf x1 y1 < 0) = true := decide_eq_true hv1
        go_wp2_with fail
        go_quiet_grown (first | (go_at_fn g; refine Calls.grown_of (hc1 _ _)))
        have S2 : Aside (SWK enc k w0 blk off d (grow (wr.drewN nq) osq)) := S1.out.grown nq osq
        clear l1a l1b hc1 S1
        generalize grow (wr.drewN nq) osq = w2 at S2 ⊢
        clear nq osq
        go_wp2
        go_roundg (h - i)
        case measure => omega
        case rel => exact ⟨i, h, rfl, rfl, hmi, hhi, by omega, by omega, S2, HL, Or.inr (by rw [← XY.out.1, ← XY.out.2]; exact decide_eq_true (by omega))⟩
      · have hv1 : ¬ cf x1 y1 < 0 := hlv
        have hd1 : decide (cf x1 y1 < 0) = false := decide_eq_false hv1
        go_wp2_with fail
        go_quiet_grown (first | (go_at_fn g; refine Calls.grown_of (hc1 _ _)))
        have S2 : Aside (SWK enc k w0 blk off d (grow (wr.drewN nq) osq)) := S1.out.grown nq osq
        clear l1a l1b hc1 S1
        generalize grow (wr.drewN nq) osq = w2 at S2 ⊢
        clear nq osq
        go_wp2
        go_roundg (j - (h + 1))
        case measure => omega
        case rel => exact ⟨h + 1, j, by go_num, rfl, by omega, by omega, hjb, by omega, S2, Or.inr (by rw [Nat.add_sub_cancel, ← XY.out.1, ← XY.out.2]; exact decide_eq_false (by omega)), HR⟩
    · have hltz : ¬ (i : Int) < (j : Int) := by omega
      obtain rfl : i = j := by omega
      go_wp2
      go_loopg [17] (m - i) (fun kx s13 wr2 => ∃ (q : Nat) (dk : Array α), s13 = .int .i64 q ∧ i ≤ q ∧ q ≤ m ∧ q - i ≤ kx ∧ dk.size = d.size ∧ Aside (SWK enc k w0 blk off dk wr2) ∧ Hid (RotEq q m (m + 1) d dk ∧ PermIn a b d dk))
      case atStart => exact ⟨m, d, rfl, hjb, Nat.le_refl _, Nat.le_refl _, rfl, S1, rotEq_self _ _ _ _ (Or.inl ⟨rfl, by omega⟩), permIn_refl _ _ _⟩
      case round =>
        clear S1
        obtain ⟨q, dk, rfl, haq, hqi, hkq, hds, S1, HQ⟩ := hrel
        by_cases hlt2 : i < q
        · obtain ⟨q, rfl⟩ : ∃ q', q = q' + 1 := ⟨q - 1, by omega⟩
          have hltz2 : (i : Int) < (q : Int) + 1 := by omega
          have ea2 : ((q : Int) + 1).toNat = q + 1 := by omega
          have pa2 : (0 : Int) ≤ (q : Int) + 1 := by omega
          have ba2 : (q : Int) + 1 < (d.size : Int) := by omega
          have ra2 : IntKind.i64.wrap ((q : Int) + 1) = (q : Int) + 1 := by rw [IntKind.wrap_i64]; omega
          have ec2 : ((q : Int)).toNat = q := by omega
          have pc2 : (0 : Int) ≤ (q : Int) := by omega
          have bc2 : (q : Int) < (d.size : Int) := by omega
          have rc2 : IntKind.i64.wrap ((q : Int)) = (q : Int) := by rw [IntKind.wrap_i64]; omega
          have S2 : Aside (SWK enc k w0 blk off (swp dk (q + 1) (q)) ((wr.drew.setCells blk (off + (q + 1) * k) (enc dk[q]!)).setCells blk (off + (q) * k) (enc dk[q + 1]!))) := S1.out.swapped R (q + 1) (q) (by omega) (by omega)
          have l2a := S1.out.ld1 R (by omega) P (q + 1) (by omega)
          have l2b := S1.out.ld1 R (by omega) P (q) (by omega)
          have s2a := S1.out.st1 R (by omega) P (q + 1) (by omega) dk[q]!
          have s2b := S1.out.st2 R (by omega) P (q + 1) (q) (by omega) (by omega) dk[q]! dk[q + 1]!
          have n2a : (enc dk[q + 1]!).length = k := R.hk _
          have n2b : (enc dk[q]!).length = k := R.hk _
          generalize enc dk[q + 1]! = cI2 at S2 l2a s2b n2a
          generalize enc dk[q]! = cJ2 at S2 l2b s2a s2b n2b
          clear S1
          go_wp2_with fail
          go_big_region_o
          clear l2a l2b s2a s2b
          generalize (wr.drew.setCells blk (off + (q + 1) * k) cJ2).setCells blk (off + (q) * k) cI2 = w2 at S2 ⊢
          go_wp2
          go_roundg (q - i)
          case measure => omega
          case rel => exact ⟨q, _, by go_num, by omega, by omega, Nat.le_refl _, by rw [swp_size, hds], S2, rot_one_left (by omega) (by omega) HQ.out.1, permIn_trans _ _ _ _ _ HQ.out.2 (swp_permIn _ _ _ _ _ (by omega) (by omega) (by omega) (by omega) (by omega))⟩
        · have hltz2 : ¬ (i : Int) < (q : Int) := by omega
          obtain rfl : i = q := by omega
          go_wp2
          (try simp only [Exit.inBlock, Exit.then]); refine bodyPost_ret (results_none rfl _ _ _) rfl ?_
          have hmb := HA.out
          subst hmb
          exact ⟨rfl, dk, S1.out, HQ.out.2, merge_last hO hmi hjb H2.out HL.out HR.out HQ.out.1⟩

end Go.Proofs.Ytcgajgmcjgoipaa.Stab
