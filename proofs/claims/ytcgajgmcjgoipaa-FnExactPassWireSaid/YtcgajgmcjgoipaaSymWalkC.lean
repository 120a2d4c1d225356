/-
  slices.symMergeCmpFunc's long way: the halves, the rotation, two calls of itself.
-/
import Derived.Test.YtcgajgmcjgoipaaSymWalkB
import Derived.Deep.CutRange
namespace Go.Proofs.Ytcgajgmcjgoipaa.Stab
open Go.Shelf Go.RowKit Go.Lib Go.Sort
variable {P : Program} {k : Nat} {α : Type} [Inhabited α]

set_option maxHeartbeats 8000000 in
set_option maxRecDepth 1000000 in
theorem symMainL (L : Facts P k) (enc : α → List Value) (cf : α → α → Int) (hO : SWO (ltOf cf)) (g : Nat) (cb : Array Value) (eg : ∀ args w, (callFunc g args).run P w = .ok (.enter g args) w) (blk off cap : Nat) (d0 : Array α) (w0 : World) (hcmp : CmpLays P g cb enc k cf blk off d0.size w0) (R : RowK enc k w0 blk off d0) (N : Nat)
    (ih : ∀ (a m b : Nat) (d : Array α) (w : World), b - a < N → d0.size = d.size → SWK enc k w0 blk off d w → a < m → m < b → b ≤ d.size → d.size < 4611686018427387904 → SortedIn (ltOf cf) a m d → SortedIn (ltOf cf) m b d → Calls P 98 #[.slice (some ⟨blk, off, none⟩) d.size cap, .int .i64 a, .int .i64 m, .int .i64 b, .func (.func g) #[] cb] w fun e w' =>
      e = .returned (.tuple #[]) ∧ ∃ d', SWK enc k w0 blk off d' w' ∧ PermIn a b d d' ∧ SortedIn (ltOf cf) a b d')
    (a m b : Nat) (d : Array α) (w : World) (hN : b - a < N + 1) (hs : d0.size = d.size) (S : SWK enc k w0 blk off d w) (ham : a + 1 < m) (hmb : m + 1 < b) (hb : b ≤ d.size) (hsz : d.size < 4611686018427387904)
    (hmid : (a + b) / 2 < m) (h1 : SortedIn (ltOf cf) a m d) (h2 : SortedIn (ltOf cf) m b d) :
    Calls P 98 #[.slice (some ⟨blk, off, none⟩) d.size cap, .int .i64 a, .int .i64 m, .int .i64 b, .func (.func g) #[] cb] w fun e w' =>
      e = .returned (.tuple #[]) ∧ ∃ d', SWK enc k w0 blk off d' w' ∧ PermIn a b d d' ∧ SortedIn (ltOf cf) a b d' := by
  have mixed := L.mixed; have t0 := L.t0; have a0 := L.a0; have z0 := L.z0; have v0 := L.v0; have t3 := L.t3; have a3 := L.a3; have z3 := L.z3; have v3 := L.v3; have t4 := L.t4; have a4 := L.a4; have z4 := L.z4; have v4 := L.v4; have t60 := L.t60; have a60 := L.a60; have z60 := L.z60; have v60 := L.v60; have t66 := L.t66; have a66 := L.a66; have z66 := L.z66; have v66 := L.v66; have t80 := L.t80; have a80 := L.a80; have z80 := L.z80; have v80 := L.v80; have aE := L.aE; have zE := L.zE
  have HC : Aside _ := hcmp
  have H12 : Hid (SortedIn (ltOf cf) a m d ∧ SortedIn (ltOf cf) m b d) := ⟨h1, h2⟩
  have IH : Aside _ := ih
  have HO : Aside _ := hO
  have S0 : Aside (SWK enc k w0 blk off d w) := S
  clear S hcmp h1 h2 ih hO
  have e99 : ∀ args w, (callFunc 99 args).run P w = .ok (.enter 99 args) w := enters_of L.f_rot (by kernel_rfl) rfl
  have e98 : ∀ args w, (callFunc 98 args).run P w = .ok (.enter 98 args) w := enters_of L.f_sym (by kernel_rfl) rfl
  have g0 : ¬ ((m : Int) - (a : Int) = 1) := by omega
  have g0b : ((m : Int) - (a : Int) == 1) = false := beq_false_of_ne g0
  have g1 : ¬ ((b : Int) - (m : Int) = 1) := by omega
  have g1b : ((b : Int) - (m : Int) == 1) = false := beq_false_of_ne g1
  obtain ⟨mid, hm⟩ : ∃ mid, mid = (a + b) / 2 := ⟨_, rfl⟩
  rw [← hm] at hmid
  have hmz : ((a : Int) + (b : Int)) / 2 = (mid : Int) := by omega
  have hm1 : mid + mid ≤ a + b := by omega
  have hm2 : a + b ≤ mid + mid + 1 := by omega
  clear hm
  obtain ⟨p, hp⟩ : ∃ p, p = mid + m - 1 := ⟨_, rfl⟩
  have hpz : (mid : Int) + (m : Int) - 1 = (p : Int) := by omega
  have hp1 : p + 1 ≤ mid + m := by omega
  have hp2 : mid + m ≤ p + 1 := by omega
  clear hp
  have hgt : (mid : Int) < (m : Int) := by omega
  obtain ⟨s0, hs0⟩ : ∃ s0, s0 = mid + m - b := ⟨_, rfl⟩
  have hsz0 : (mid : Int) + (m : Int) - (b : Int) = (s0 : Int) := by omega
  have hs1 : s0 + b ≤ mid + m := by omega
  have hs2 : mid + m ≤ s0 + b := by omega
  clear hs0
  go_enter L.f_sym, Try.ntmps98
  go_wp2
  go_loopg [20, 21] (mid - s0) (fun kx s20 s21 wr => ∃ (i j : Nat), s20 = .int .i64 i ∧ s21 = .int .i64 j ∧ s0 ≤ i ∧ i ≤ j ∧ j ≤ mid ∧ j - i ≤ kx ∧ Aside (SWK enc k w0 blk off d wr) ∧ Hid (i = s0 ∨ ltOf cf d[p - (i - 1)]! d[i - 1]! = false) ∧ Hid (j = mid ∨ ltOf cf d[p - j]! d[j]! = true))
  case atStart => exact ⟨s0, mid, rfl, rfl, Nat.le_refl _, by omega, Nat.le_refl _, Nat.le_refl _, S0, Or.inl rfl, Or.inl rfl⟩
  case round =>
    clear S0
    obtain ⟨i, j, rfl, rfl, hmi, hij, hjb, hkx, S1, HL, HR⟩ := hrel
    by_cases hlt : i < j
    · have hltz : (i : Int) < (j : Int) := by omega
      obtain ⟨h, hh⟩ : ∃ h, h = (i + j) / 2 := ⟨_, rfl⟩
      have hz : ((i : Int) + (j : Int)) / 2 = (h : Int) := by omega
      have hhi : i ≤ h := by omega
      have hhj : h < j := by omega
      clear hh
      obtain ⟨q, hq⟩ : ∃ q, q = p - h := ⟨_, rfl⟩
      have hqz : (p : Int) - (h : Int) = (q : Int) := by omega
      have HQ : Hid (q = p - h) := hq
      have hq1 : q + h ≤ p := by omega
      have hq2 : p ≤ q + h := by omega
      clear hq
      have ea1 : ((q : Int)).toNat = q := by omega
      have pa1 : (0 : Int) ≤ (q : Int) := by omega
      have ba1 : (q : Int) < (d.size : Int) := by omega
      have ra1 : IntKind.i64.wrap ((q : Int)) = (q : Int) := by rw [IntKind.wrap_i64]; omega
      have ec1 : ((h : Int)).toNat = h := by omega
      have pc1 : (0 : Int) ≤ (h : Int) := by omega
      have bc1 : (h : Int) < (d.size : Int) := by omega
      have rc1 : IntKind.i64.wrap ((h : Int)) = (h : Int) := by rw [IntKind.wrap_i64]; omega
      obtain ⟨x1, hx1⟩ : ∃ x, x = d[q]! := ⟨_, rfl⟩
      obtain ⟨y1, hy1⟩ : ∃ x, x = d[h]! := ⟨_, rfl⟩
      have l1a := S1.out.ld R (by omega) P (q) (by omega)
      have l1b := S1.out.ld R (by omega) P (h) (by omega)
      rw [← hx1] at l1a
      rw [← hy1] at l1b
      have hc1 := S1.out.cmp HC.out (by omega) x1 y1
      have XY : Hid (x1 = d[q]! ∧ y1 = d[h]!) := ⟨hx1, hy1⟩
      clear hx1 hy1
      by_cases hlv : cf x1 y1 < 0
      · have hv1 : cf x1 y1 < 0 := hlv
        have hd1 : decide (cf x1 y1 < 0) = true := decide_eq_true hv1
        go_wp2_with fail
        go_quiet_grown (first | (go_at_fn g; refine Calls.grown_of (hc1 _ _)))
        have S2 : Aside (SWK enc k w0 blk off d (grow (wr.drewN nq) osq)) := S1.out.grown nq osq
        clear l1a l1b hc1 S1
        generalize grow (wr.drewN nq) osq = w2 at S2 ⊢
        clear nq osq
        go_wp2
        go_roundg (h - i)
        case measure => omega
        case rel => exact ⟨i, h, rfl, rfl, hmi, hhi, by omega, by omega, S2, HL, Or.inr (by rw [← HQ.out, ← XY.out.1, ← XY.out.2]; exact decide_eq_true (by omega))⟩
      · have hv1 : ¬ cf x1 y1 < 0 := hlv
        have hd1 : decide (cf x1 y1 < 0) = false := decide_eq_false hv1
        go_wp2_with fail
        go_quiet_grown (first | (go_at_fn g; refine Calls.grown_of (hc1 _ _)))
        have S2 : Aside (SWK enc k w0 blk off d (grow (wr.drewN nq) osq)) := S1.out.grown nq osq
        clear l1a l1b hc1 S1
        generalize grow (wr.drewN nq) osq = w2 at S2 ⊢
        clear nq osq
        go_wp2
        go_roundg (j - (h + 1))
        case measure => omega
        case rel => exact ⟨h + 1, j, by go_num, rfl, by omega, by omega, hjb, by omega, S2, Or.inr (by rw [Nat.add_sub_cancel, ← HQ.out, ← XY.out.1, ← XY.out.2]; exact decide_eq_false (by omega)), HR⟩
    · have hltz : ¬ (i : Int) < (j : Int) := by omega
      obtain rfl : i = j := by omega
      obtain ⟨e, he⟩ : ∃ e, e = p + 1 - i := ⟨_, rfl⟩
      have hez : (mid : Int) + (m : Int) - (i : Int) = (e : Int) := by omega
      have he1 : e + i ≤ p + 1 := by omega
      have he2 : p + 1 ≤ e + i := by omega
      clear he
      have hi1 : a ≤ i := by omega
      have hi2 : i ≤ m := by omega
      have hi3 : m ≤ e := by omega
      have hi4 : e ≤ b := by omega
      have HL2 : Hid (i = a ∨ e = b ∨ ltOf cf d[e]! d[i - 1]! = false) := by
        rcases HL.out with h | h
        · exact Or.inr (Or.inl (by omega))
        · by_cases h0 : i = a
          · exact Or.inl h0
          · exact Or.inr (Or.inr (by rwa [show p - (i - 1) = e by omega] at h))
      have HR2 : Hid (i = m ∨ e = m ∨ ltOf cf d[e - 1]! d[i]! = true) := by
        rcases HR.out with h | h
        · exact Or.inr (Or.inl (by omega))
        · exact Or.inr (Or.inr (by rwa [show p - i = e - 1 by omega] at h))
      clear HL HR
      go_upto_region 39 with fail
      go_cut [185] from 178 to 184 (fun s185 wx => s185 = .bool (decide (i < m) && decide (m < e)) ∧ wr = wx)
      case first =>
        by_cases c1 : i < m
        · have c1z : (i : Int) < (m : Int) := by omega
          by_cases c2 : m < e
          · have c2z : (m : Int) < (e : Int) := by omega
            go_wp2_with fail
            go_meet
            exact ⟨by simp [c1, c2], rfl⟩
          · have c2z : ¬ (m : Int) < (e : Int) := by omega
            go_wp2_with fail
            go_meet
            exact ⟨by simp [c1, c2], rfl⟩
        · have c1z : ¬ (i : Int) < (m : Int) := by omega
          go_wp2_with fail
          go_meet
          exact ⟨by simp [c1], rfl⟩
      case rest =>
      obtain ⟨rfl, rfl⟩ := hcut
      go_upto_if 185 with fail
      go_cut [] from 185 to 191 (fun wx => ∃ d1 : Array α, d1.size = d.size ∧ Aside (SWK enc k w0 blk off d1 wx) ∧ Hid (PermIn a b d d1 ∧ RotEq i m e d d1))
      case first =>
        cases hc : (decide (i < m) && decide (m < e))
        · go_wp2_with fail
          go_meet
          refine ⟨d, rfl, S1, permIn_refl _ _ _, rotEq_self _ _ _ _ ?_⟩
          simp only [Bool.and_eq_false_iff, decide_eq_false_iff_not] at hc
          omega
        · have hc2 : i < m ∧ m < e := by simpa using hc
          have hcall := rotate L enc g cb blk off cap i m e d0 d w0 wr R hs S1.out hc2.1 hc2.2 (by omega) hsz
          clear S1
          go_wp2_with (go_at_fn 99; refine hcall.mono ?_; rintro e' w1 ⟨rfl, d1, S3, hR, hP⟩)
          go_meet
          exact ⟨d1, hP.1, S3, permIn_mono _ _ _ _ _ _ hi1 hi4 hb hP, hR⟩
      case rest =>
      obtain ⟨d1, hd1, S2, H1⟩ := hcut
      clear S1
      have HH : Hid (SortedIn (ltOf cf) a i d1 ∧ SortedIn (ltOf cf) i mid d1 ∧ SortedIn (ltOf cf) mid e d1 ∧ SortedIn (ltOf cf) e b d1 ∧ ∀ x y, a ≤ x → x < mid → mid ≤ y → y < b → ltOf cf d1[y]! d1[x]! = false) :=
        sym_halves HO.out hi1 hi2 hi3 hi4 (by omega) H12.out.1 H12.out.2 HL2.out HR2.out H1.out.2
      go_upto_region 41 with fail
      go_cut [199] from 192 to 198 (fun s199 wx => s199 = .bool (decide (a < i) && decide (i < mid)) ∧ wc = wx)
      case first =>
        by_cases c1 : a < i
        · have c1z : (a : Int) < (i : Int) := by omega
          by_cases c2 : i < mid
          · have c2z : (i : Int) < (mid : Int) := by omega
            go_wp2_with fail
            go_meet
            exact ⟨by simp [c1, c2], rfl⟩
          · have c2z : ¬ (i : Int) < (mid : Int) := by omega
            go_wp2_with fail
            go_meet
            exact ⟨by simp [c1, c2], rfl⟩
        · have c1z : ¬ (a : Int) < (i : Int) := by omega
          go_wp2_with fail
          go_meet
          exact ⟨by simp [c1], rfl⟩
      case rest =>
      obtain ⟨rfl, rfl⟩ := hcut
      go_upto_if 199 with fail
      go_cut [] from 199 to 205 (fun wx => ∃ d2 : Array α, d2.size = d.size ∧ Aside (SWK enc k w0 blk off d2 wx) ∧ Hid (PermIn a b d d2 ∧ SortedIn (ltOf cf) a mid d2 ∧ SortedIn (ltOf cf) mid e d2 ∧ SortedIn (ltOf cf) e b d2 ∧ ∀ x y, a ≤ x → x < mid → mid ≤ y → y < b → ltOf cf d2[y]! d2[x]! = false))
      case first =>
        cases hc : (decide (a < i) && decide (i < mid))
        · go_wp2_with fail
          go_meet
          simp only [Bool.and_eq_false_iff, decide_eq_false_iff_not] at hc
          refine ⟨d1, hd1, S2, H1.out.1, ?_, HH.out.2.2.1, HH.out.2.2.2.1, HH.out.2.2.2.2⟩
          rcases hc with hc | hc
          · have := HH.out.2.1
            rwa [show i = a by omega] at this
          · have := HH.out.1
            rwa [show i = mid by omega] at this
        · have hc2 : a < i ∧ i < mid := by simpa using hc
          have hcall := IH.out a i mid d1 wc (by omega) (by omega) S2.out hc2.1 hc2.2 (by omega) (by omega) HH.out.1 HH.out.2.1
          rw [hd1] at hcall
          clear S2
          go_wp2_with (go_at_fn 98; refine hcall.mono ?_; rintro e' w1 ⟨rfl, d2, S3, hP, hS⟩)
          go_meet
          exact ⟨d2, hP.1.trans hd1, S3, permIn_trans _ _ _ _ _ H1.out.1 (permIn_mono _ _ _ _ _ _ (Nat.le_refl _) (by omega) (by omega) hP), hS, sorted_congr HH.out.2.2.1 (fun q h1 h2 => hP.2.1 q (Or.inr h1)), sorted_congr HH.out.2.2.2.1 (fun q h1 h2 => hP.2.1 q (Or.inr (by omega))), halves_left (by omega) hP HH.out.2.2.2.2⟩
      case rest =>
      obtain ⟨d2, hd2, S3, H2⟩ := hcut
      clear S2 HH
      go_upto_region 43 with fail
      go_cut [213] from 206 to 212 (fun s213 wx => s213 = .bool (decide (mid < e) && decide (e < b)) ∧ wc = wx)
      case first =>
        by_cases c1 : mid < e
        · have c1z : (mid : Int) < (e : Int) := by omega
          by_cases c2 : e < b
          · have c2z : (e : Int) < (b : Int) := by omega
            go_wp2_with fail
            go_meet
            exact ⟨by simp [c1, c2], rfl⟩
          · have c2z : ¬ (e : Int) < (b : Int) := by omega
            go_wp2_with fail
            go_meet
            exact ⟨by simp [c1, c2], rfl⟩
        · have c1z : ¬ (mid : Int) < (e : Int) := by omega
          go_wp2_with fail
          go_meet
          exact ⟨by simp [c1], rfl⟩
      case rest =>
      obtain ⟨rfl, rfl⟩ := hcut
      have hq := H2.out
      cases hc : (decide (mid < e) && decide (e < b))
      · have HX : Hid _ := hq
        clear hq
        go_wp2_with fail
        go_end0
        simp only [Bool.and_eq_false_iff, decide_eq_false_iff_not] at hc
        refine ⟨rfl, d2, S3.out, H2.out.1, sorted_join H2.out.2.1 ?_ H2.out.2.2.2.2⟩
        rcases hc with hc | hc
        · have := H2.out.2.2.2.1
          rwa [show e = mid by omega] at this
        · have := H2.out.2.2.1
          rwa [show e = b by omega] at this
      · have hc2 : mid < e ∧ e < b := by simpa using hc
        have hcall := IH.out mid e b d2 wc (by omega) (by omega) S3.out hc2.1 hc2.2 (by omega) (by omega) hq.2.2.1 hq.2.2.2.1
        rw [hd2] at hcall
        clear S3 hq
        go_wp2_with (go_at_fn 98; refine hcall.mono ?_; rintro e' w1 ⟨rfl, d3, S4, hP, hS⟩)
        go_end0
        exact ⟨rfl, d3, S4, permIn_trans _ _ _ _ _ H2.out.1 (permIn_mono _ _ _ _ _ _ (by omega) (Nat.le_refl _) (by omega) hP), sorted_join (sorted_congr H2.out.2.1 (fun q h1 h2 => hP.2.1 q (Or.inl h2))) hS (halves_right (by omega) hP H2.out.2.2.2.2)⟩

set_option maxHeartbeats 8000000 in
set_option maxRecDepth 1000000 in
theorem symMainR (L : Facts P k) (enc : α → List Value) (cf : α → α → Int) (hO : SWO (ltOf cf)) (g : Nat) (cb : Array Value) (eg : ∀ args w, (callFunc g args).run P w = .ok (.enter g args) w) (blk off cap : Nat) (d0 : Array α) (w0 : World) (hcmp : CmpLays P g cb enc k cf blk off d0.size w0) (R : RowK enc k w0 blk off d0) (N : Nat)
    (ih : ∀ (a m b : Nat) (d : Array α) (w : World), b - a < N → d0.size = d.size → SWK enc k w0 blk off d w → a < m → m < b → b ≤ d.size → d.size < 4611686018427387904 → SortedIn (ltOf cf) a m d → SortedIn (ltOf cf) m b d → Calls P 98 #[.slice (some ⟨blk, off, none⟩) d.size cap, .int .i64 a, .int .i64 m, .int .i64 b, .func (.func g) #[] cb] w fun e w' =>
      e = .returned (.tuple #[]) ∧ ∃ d', SWK enc k w0 blk off d' w' ∧ PermIn a b d d' ∧ SortedIn (ltOf cf) a b d')
    (a m b : Nat) (d : Array α) (w : World) (hN : b - a < N + 1) (hs : d0.size = d.size) (S : SWK enc k w0 blk off d w) (ham : a + 1 < m) (hmb : m + 1 < b) (hb : b ≤ d.size) (hsz : d.size < 4611686018427387904)
    (hmid : m ≤ (a + b) / 2) (h1 : SortedIn (ltOf cf) a m d) (h2 : SortedIn (ltOf cf) m b d) :
    Calls P 98 #[.slice (some ⟨blk, off, none⟩) d.size cap, .int .i64 a, .int .i64 m, .int .i64 b, .func (.func g) #[] cb] w fun e w' =>
      e = .returned (.tuple #[]) ∧ ∃ d', SWK enc k w0 blk off d' w' ∧ PermIn a b d d' ∧ SortedIn (ltOf cf) a b d' := by
  have mixed := L.mixed; have t0 := L.t0; have a0 := L.a0; have z0 := L.z0; have v0 := L.v0; have t3 := L.t3; have a3 := L.a3; have z3 := L.z3; have v3 := L.v3; have t4 := L.t4; have a4 := L.a4; have z4 := L.z4; have v4 := L.v4; have t60 := L.t60; have a60 := L.a60; have z60 := L.z60; have v60 := L.v60; have t66 := L.t66; have a66 := L.a66; have z66 := L.z66; have v66 := L.v66; have t80 := L.t80; have a80 := L.a80; have z80 := L.z80; have v80 := L.v80; have aE := L.aE; have zE := L.zE
  have HC : Aside _ := hcmp
  have H12 : Hid (SortedIn (ltOf cf) a m d ∧ SortedIn (ltOf cf) m b d) := ⟨h1, h2⟩
  have IH : Aside _ := ih
  have HO : Aside _ := hO
  have S0 : Aside (SWK enc k w0 blk off d w) := S
  clear S hcmp h1 h2 ih hO
  have e99 : ∀ args w, (callFunc 99 args).run P w = .ok (.enter 99 args) w := enters_of L.f_rot (by kernel_rfl) rfl
  have e98 : ∀ args w, (callFunc 98 args).run P w = .ok (.enter 98 args) w := enters_of L.f_sym (by kernel_rfl) rfl
  have g0 : ¬ ((m : Int) - (a : Int) = 1) := by omega
  have g0b : ((m : Int) - (a : Int) == 1) = false := beq_false_of_ne g0
  have g1 : ¬ ((b : Int) - (m : Int) = 1) := by omega
  have g1b : ((b : Int) - (m : Int) == 1) = false := beq_false_of_ne g1
  obtain ⟨mid, hm⟩ : ∃ mid, mid = (a + b) / 2 := ⟨_, rfl⟩
  rw [← hm] at hmid
  have hmz : ((a : Int) + (b : Int)) / 2 = (mid : Int) := by omega
  have hm1 : mid + mid ≤ a + b := by omega
  have hm2 : a + b ≤ mid + mid + 1 := by omega
  clear hm
  obtain ⟨p, hp⟩ : ∃ p, p = mid + m - 1 := ⟨_, rfl⟩
  have hpz : (mid : Int) + (m : Int) - 1 = (p : Int) := by omega
  have hp1 : p + 1 ≤ mid + m := by omega
  have hp2 : mid + m ≤ p + 1 := by omega
  clear hp
  have hgt : ¬ (mid : Int) < (m : Int) := by omega
  go_enter L.f_sym, Try.ntmps98
  go_wp2
  go_loopg [20, 21] (m - a) (fun kx s20 s21 wr => ∃ (i j : Nat), s20 = .int .i64 i ∧ s21 = .int .i64 j ∧ a ≤ i ∧ i ≤ j ∧ j ≤ m ∧ j - i ≤ kx ∧ Aside (SWK enc k w0 blk off d wr) ∧ Hid (i = a ∨ ltOf cf d[p - (i - 1)]! d[i - 1]! = false) ∧ Hid (j = m ∨ ltOf cf d[p - j]! d[j]! = true))
  case atStart => exact ⟨a, m, rfl, rfl, Nat.le_refl _, by omega, Nat.le_refl _, Nat.le_refl _, S0, Or.inl rfl, Or.inl rfl⟩
  case round =>
    clear S0
    obtain ⟨i, j, rfl, rfl, hmi, hij, hjb, hkx, S1, HL, HR⟩ := hrel
    by_cases hlt : i < j
    · have hltz : (i : Int) < (j : Int) := by omega
      obtain ⟨h, hh⟩ : ∃ h, h = (i + j) / 2 := ⟨_, rfl⟩
      have hz : ((i : Int) + (j : Int)) / 2 = (h : Int) := by omega
      have hhi : i ≤ h := by omega
      have hhj : h < j := by omega
      clear hh
      obtain ⟨q, hq⟩ : ∃ q, q = p - h := ⟨_, rfl⟩
      have hqz : (p : Int) - (h : Int) = (q : Int) := by omega
      have HQ : Hid (q = p - h) := hq
      have hq1 : q + h ≤ p := by omega
      have hq2 : p ≤ q + h := by omega
      clear hq
      have ea1 : ((q : Int)).toNat = q := by omega
      have pa1 : (0 : Int) ≤ (q : Int) := by omega
      have ba1 : (q : Int) < (d.size : Int) := by omega
      have ra1 : IntKind.i64.wrap ((q : Int)) = (q : Int) := by rw [IntKind.wrap_i64]; omega
      have ec1 : ((h : Int)).toNat = h := by omega
      have pc1 : (0 : Int) ≤ (h : Int) := by omega
      have bc1 : (h : Int) < (d.size : Int) := by omega
      have rc1 : IntKind.i64.wrap ((h : Int)) = (h : Int) := by rw [IntKind.wrap_i64]; omega
      obtain ⟨x1, hx1⟩ : ∃ x, x = d[q]! := ⟨_, rfl⟩
      obtain ⟨y1, hy1⟩ : ∃ x, x = d[h]! := ⟨_, rfl⟩
      have l1a := S1.out.ld R (by omega) P (q) (by omega)
      have l1b := S1.out.ld R (by omega) P (h) (by omega)
      rw [← hx1] at l1a
      rw [← hy1] at l1b
      have hc1 := S1.out.cmp HC.out (by omega) x1 y1
      have XY : Hid (x1 = d[q]! ∧ y1 = d[h]!) := ⟨hx1, hy1⟩
      clear hx1 hy1
      by_cases hlv : cf x1 y1 < 0
      · have hv1 : cf x1 y1 < 0 := hlv
        have hd1 : decide (cf x1 y1 < 0) = true := decide_eq_true hv1
        go_wp2_with fail
        go_quiet_grown (first | (go_at_fn g; refine Calls.grown_of (hc1 _ _)))
        have S2 : Aside (SWK enc k w0 blk off d (grow (wr.drewN nq) osq)) := S1.out.grown nq osq
        clear l1a l1b hc1 S1
        generalize grow (wr.drewN nq) osq = w2 at S2 ⊢
        clear nq osq
        go_wp2
        go_roundg (h - i)
        case measure => omega
        case rel => exact ⟨i, h, rfl, rfl, hmi, hhi, by omega, by omega, S2, HL, Or.inr (by rw [← HQ.out, ← XY.out.1, ← XY.out.2]; exact decide_eq_true (by omega))⟩
      · have hv1 : ¬ cf x1 y1 < 0 := hlv
        have hd1 : decide (cf x1 y1 < 0) = false := decide_eq_false hv1
        go_wp2_with fail
        go_quiet_grown (first | (go_at_fn g; refine Calls.grown_of (hc1 _ _)))
        have S2 : Aside (SWK enc k w0 blk off d (grow (wr.drewN nq) osq)) := S1.out.grown nq osq
        clear l1a l1b hc1 S1
        generalize grow (wr.drewN nq) osq = w2 at S2 ⊢
        clear nq osq
        go_wp2
        go_roundg (j - (h + 1))
        case measure => omega
        case rel => exact ⟨h + 1, j, by go_num, rfl, by omega, by omega, hjb, by omega, S2, Or.inr (by rw [Nat.add_sub_cancel, ← HQ.out, ← XY.out.1, ← XY.out.2]; exact decide_eq_false (by omega)), HR⟩
    · have hltz : ¬ (i : Int) < (j : Int) := by omega
      obtain rfl : i = j := by omega
      obtain ⟨e, he⟩ : ∃ e, e = p + 1 - i := ⟨_, rfl⟩
      have hez : (mid : Int) + (m : Int) - (i : Int) = (e : Int) := by omega
      have he1 : e + i ≤ p + 1 := by omega
      have he2 : p + 1 ≤ e + i := by omega
      clear he
      have hi1 : a ≤ i := by omega
      have hi2 : i ≤ m := by omega
      have hi3 : m ≤ e := by omega
      have hi4 : e ≤ b := by omega
      have HL2 : Hid (i = a ∨ e = b ∨ ltOf cf d[e]! d[i - 1]! = false) := by
        rcases HL.out with h | h
        · exact Or.inl h
        · by_cases h0 : i = a
          · exact Or.inl h0
          · exact Or.inr (Or.inr (by rwa [show p - (i - 1) = e by omega] at h))
      have HR2 : Hid (i = m ∨ e = m ∨ ltOf cf d[e - 1]! d[i]! = true) := by
        rcases HR.out with h | h
        · exact Or.inl h
        · exact Or.inr (Or.inr (by rwa [show p - i = e - 1 by omega] at h))
      clear HL HR
      go_upto_region 39 with fail
      go_cut [185] from 178 to 184 (fun s185 wx => s185 = .bool (decide (i < m) && decide (m < e)) ∧ wr = wx)
      case first =>
        by_cases c1 : i < m
        · have c1z : (i : Int) < (m : Int) := by omega
          by_cases c2 : m < e
          · have c2z : (m : Int) < (e : Int) := by omega
            go_wp2_with fail
            go_meet
            exact ⟨by simp [c1, c2], rfl⟩
          · have c2z : ¬ (m : Int) < (e : Int) := by omega
            go_wp2_with fail
            go_meet
            exact ⟨by simp [c1, c2], rfl⟩
        · have c1z : ¬ (i : Int) < (m : Int) := by omega
          go_wp2_with fail
          go_meet
          exact ⟨by simp [c1], rfl⟩
      case rest =>
      obtain ⟨rfl, rfl⟩ := hcut
      go_upto_if 185 with fail
      go_cut [] from 185 to 191 (fun wx => ∃ d1 : Array α, d1.size = d.size ∧ Aside (SWK enc k w0 blk off d1 wx) ∧ Hid (PermIn a b d d1 ∧ RotEq i m e d d1))
      case first =>
        cases hc : (decide (i < m) && decide (m < e))
        · go_wp2_with fail
          go_meet
          refine ⟨d, rfl, S1, permIn_refl _ _ _, rotEq_self _ _ _ _ ?_⟩
          simp only [Bool.and_eq_false_iff, decide_eq_false_iff_not] at hc
          omega
        · have hc2 : i < m ∧ m < e := by simpa using hc
          have hcall := rotate L enc g cb blk off cap i m e d0 d w0 wr R hs S1.out hc2.1 hc2.2 (by omega) hsz
          clear S1
          go_wp2_with (go_at_fn 99; refine hcall.mono ?_; rintro e' w1 ⟨rfl, d1, S3, hR, hP⟩)
          go_meet
          exact ⟨d1, hP.1, S3, permIn_mono _ _ _ _ _ _ hi1 hi4 hb hP, hR⟩
      case rest =>
      obtain ⟨d1, hd1, S2, H1⟩ := hcut
      clear S1
      have HH : Hid (SortedIn (ltOf cf) a i d1 ∧ SortedIn (ltOf cf) i mid d1 ∧ SortedIn (ltOf cf) mid e d1 ∧ SortedIn (ltOf cf) e b d1 ∧ ∀ x y, a ≤ x → x < mid → mid ≤ y → y < b → ltOf cf d1[y]! d1[x]! = false) :=
        sym_halves HO.out hi1 hi2 hi3 hi4 (by omega) H12.out.1 H12.out.2 HL2.out HR2.out H1.out.2
      go_upto_region 41 with fail
      go_cut [199] from 192 to 198 (fun s199 wx => s199 = .bool (decide (a < i) && decide (i < mid)) ∧ wc = wx)
      case first =>
        by_cases c1 : a < i
        · have c1z : (a : Int) < (i : Int) := by omega
          by_cases c2 : i < mid
          · have c2z : (i : Int) < (mid : Int) := by omega
            go_wp2_with fail
            go_meet
            exact ⟨by simp [c1, c2], rfl⟩
          · have c2z : ¬ (i : Int) < (mid : Int) := by omega
            go_wp2_with fail
            go_meet
            exact ⟨by simp [c1, c2], rfl⟩
        · have c1z : ¬ (a : Int) < (i : Int) := by omega
          go_wp2_with fail
          go_meet
          exact ⟨by simp [c1], rfl⟩
      case rest =>
      obtain ⟨rfl, rfl⟩ := hcut
      go_upto_if 199 with fail
      go_cut [] from 199 to 205 (fun wx => ∃ d2 : Array α, d2.size = d.size ∧ Aside (SWK enc k w0 blk off d2 wx) ∧ Hid (PermIn a b d d2 ∧ SortedIn (ltOf cf) a mid d2 ∧ SortedIn (ltOf cf) mid e d2 ∧ SortedIn (ltOf cf) e b d2 ∧ ∀ x y, a ≤ x → x < mid → mid ≤ y → y < b → ltOf cf d2[y]! d2[x]! = false))
      case first =>
        cases hc : (decide (a < i) && decide (i < mid))
        · go_wp2_with fail
          go_meet
          simp only [Bool.and_eq_false_iff, decide_eq_false_iff_not] at hc
          refine ⟨d1, hd1, S2, H1.out.1, ?_, HH.out.2.2.1, HH.out.2.2.2.1, HH.out.2.2.2.2⟩
          rcases hc with hc | hc
          · have := HH.out.2.1
            rwa [show i = a by omega] at this
          · have := HH.out.1
            rwa [show i = mid by omega] at this
        · have hc2 : a < i ∧ i < mid := by simpa using hc
          have hcall := IH.out a i mid d1 wc (by omega) (by omega) S2.out hc2.1 hc2.2 (by omega) (by omega) HH.out.1 HH.out.2.1
          rw [hd1] at hcall
          clear S2
          go_wp2_with (go_at_fn 98; refine hcall.mono ?_; rintro e' w1 ⟨rfl, d2, S3, hP, hS⟩)
          go_meet
          exact ⟨d2, hP.1.trans hd1, S3, permIn_trans _ _ _ _ _ H1.out.1 (permIn_mono _ _ _ _ _ _ (Nat.le_refl _) (by omega) (by omega) hP), hS, sorted_congr HH.out.2.2.1 (fun q h1 h2 => hP.2.1 q (Or.inr h1)), sorted_congr HH.out.2.2.2.1 (fun q h1 h2 => hP.2.1 q (Or.inr (by omega))), halves_left (by omega) hP HH.out.2.2.2.2⟩
      case rest =>
      obtain ⟨d2, hd2, S3, H2⟩ := hcut
      clear S2 HH
      go_upto_region 43 with fail
      go_cut [213] from 206 to 212 (fun s213 wx => s213 = .bool (decide (mid < e) && decide (e < b)) ∧ wc = wx)
      case first =>
        by_cases c1 : mid < e
        · have c1z : (mid : Int) < (e : Int) := by omega
          by_cases c2 : e < b
          · have c2z : (e : Int) < (b : Int) := by omega
            go_wp2_with fail
            go_meet
            exact ⟨by simp [c1, c2], rfl⟩
          · have c2z : ¬ (e : Int) < (b : Int) := by omega
            go_wp2_with fail
            go_meet
            exact ⟨by simp [c1, c2], rfl⟩
        · have c1z : ¬ (mid : Int) < (e : Int) := by omega
          go_wp2_with fail
          go_meet
          exact ⟨by simp [c1], rfl⟩
      case rest =>
      obtain ⟨rfl, rfl⟩ := hcut
      have hq := H2.out
      cases hc : (decide (mid < e) && decide (e < b))
      · have HX : Hid _ := hq
        clear hq
        go_wp2_with fail
        go_end0
        simp only [Bool.and_eq_false_iff, decide_eq_false_iff_not] at hc
        refine ⟨rfl, d2, S3.out, H2.out.1, sorted_join H2.out.2.1 ?_ H2.out.2.2.2.2⟩
        rcases hc with hc | hc
        · have := H2.out.2.2.2.1
          rwa [show e = mid by omega] at this
        · have := H2.out.2.2.1
          rwa [show e = b by omega] at this
      · have hc2 : mid < e ∧ e < b := by simpa using hc
        have hcall := IH.out mid e b d2 wc (by omega) (by omega) S3.out hc2.1 hc2.2 (by omega) (by omega) hq.2.2.1 hq.2.2.2.1
        rw [hd2] at hcall
        clear S3 hq
        go_wp2_with (go_at_fn 98; refine hcall.mono ?_; rintro e' w1 ⟨rfl, d3, S4, hP, hS⟩)
        go_end0
        exact ⟨rfl, d3, S4, permIn_trans _ _ _ _ _ H2.out.1 (permIn_mono _ _ _ _ _ _ (by omega) (Nat.le_refl _) (by omega) hP), sorted_join (sorted_congr H2.out.2.1 (fun q h1 h2 => hP.2.1 q (Or.inl h2))) hS (halves_right (by omega) hP H2.out.2.2.2.2)⟩

end Go.Proofs.Ytcgajgmcjgoipaa.Stab
