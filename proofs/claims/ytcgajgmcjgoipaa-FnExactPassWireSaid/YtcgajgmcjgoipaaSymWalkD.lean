/-
  slices.symMergeCmpFunc whole; slices.stableCmpFunc and slices.SortStableFunc over a row of structs: the row holds a sorted permutation.
-/
import Derived.Test.YtcgajgmcjgoipaaSymWalkC
import Derived.Test.YtcgajgmcjgoipaaSymPure
import Derived.Test.YtcgajgmcjgoipaaSortShelf
namespace Go.Proofs.Ytcgajgmcjgoipaa.Stab
open Go.Shelf Go.RowKit Go.Lib Go.Sort
variable {P : Program} {k : Nat} {α : Type} [Inhabited α]

theorem symMerge (L : Facts P k) (enc : α → List Value) (cf : α → α → Int) (hO : SWO (ltOf cf)) (g : Nat) (cb : Array Value) (eg : ∀ args w, (callFunc g args).run P w = .ok (.enter g args) w) (blk off cap : Nat) (d0 : Array α) (w0 : World) (hcmp : CmpLays P g cb enc k cf blk off d0.size w0) (R : RowK enc k w0 blk off d0) :
    ∀ (N a m b : Nat) (d : Array α) (w : World), b - a < N → d0.size = d.size → SWK enc k w0 blk off d w → a < m → m < b → b ≤ d.size → d.size < 4611686018427387904 → SortedIn (ltOf cf) a m d → SortedIn (ltOf cf) m b d → Calls P 98 #[.slice (some ⟨blk, off, none⟩) d.size cap, .int .i64 a, .int .i64 m, .int .i64 b, .func (.func g) #[] cb] w fun e w' =>
      e = .returned (.tuple #[]) ∧ ∃ d', SWK enc k w0 blk off d' w' ∧ PermIn a b d d' ∧ SortedIn (ltOf cf) a b d' := by
  intro N
  induction N with
  | zero => intro _ _ _ _ _ h; exact absurd h (Nat.not_lt_zero _)
  | succ N ih =>
    intro a m b d w hN hs S ham hmb hb hsz h1 h2
    by_cases e1 : m = a + 1
    · exact symFirst L enc cf hO g cb eg blk off cap d0 w0 hcmp R a m b d w hs S e1 hmb hb hsz h2
    · by_cases e2 : b = m + 1
      · exact symLast L enc cf hO g cb eg blk off cap d0 w0 hcmp R a m b d w hs S (by omega) e2 hb hsz h1
      · by_cases e3 : (a + b) / 2 < m
        · exact symMainL L enc cf hO g cb eg blk off cap d0 w0 hcmp R N ih a m b d w hN hs S (by omega) (by omega) hb hsz e3 h1 h2
        · exact symMainR L enc cf hO g cb eg blk off cap d0 w0 hcmp R N ih a m b d w hN hs S (by omega) (by omega) hb hsz (by omega) h1 h2

/-- What is asked of slices.insertionSortCmpFunc. -/
def Ins (P : Program) (k : Nat) (enc : α → List Value) (cf : α → α → Int) (g : Nat) (cb : Array Value) (blk off cap : Nat) (d0 : Array α) (w0 : World) : Prop :=
  ∀ (a b : Nat) (d : Array α) (w : World), d0.size = d.size → SWK enc k w0 blk off d w → a ≤ b → b ≤ d.size → d.size < 4611686018427387904 →
    Calls P 97 #[.slice (some ⟨blk, off, none⟩) d.size cap, .int .i64 a, .int .i64 b, .func (.func g) #[] cb] w fun e w' =>
      e = .returned (.tuple #[]) ∧ ∃ d', SWK enc k w0 blk off d' w' ∧ PermIn a b d d' ∧ SortedIn (ltOf cf) a b d'

set_option maxHeartbeats 8000000 in
set_option maxRecDepth 1000000 in
theorem stable (L : Facts P k) (enc : α → List Value) (cf : α → α → Int) (hO : SWO (ltOf cf)) (g : Nat) (cb : Array Value) (eg : ∀ args w, (callFunc g args).run P w = .ok (.enter g args) w) (blk off cap : Nat) (d0 : Array α) (w0 : World) (hcmp : CmpLays P g cb enc k cf blk off d0.size w0) (R : RowK enc k w0 blk off d0) (hins : Ins P k enc cf g cb blk off cap d0 w0) (d : Array α) (w : World) (hs : d0.size = d.size) (S : SWK enc k w0 blk off d w) (hsz : d.size < 1152921504606846976) :
    Calls P 93 #[.slice (some ⟨blk, off, none⟩) d.size cap, .int .i64 d.size, .func (.func g) #[] cb] w fun e w' =>
      e = .returned (.tuple #[]) ∧ ∃ d', SWK enc k w0 blk off d' w' ∧ PermIn 0 d.size d d' ∧ SortedIn (ltOf cf) 0 d.size d' := by
  have mixed := L.mixed; have t0 := L.t0; have a0 := L.a0; have z0 := L.z0; have v0 := L.v0; have t3 := L.t3; have a3 := L.a3; have z3 := L.z3; have v3 := L.v3; have t4 := L.t4; have a4 := L.a4; have z4 := L.z4; have v4 := L.v4; have t60 := L.t60; have a60 := L.a60; have z60 := L.z60; have v60 := L.v60; have t66 := L.t66; have a66 := L.a66; have z66 := L.z66; have v66 := L.v66; have t80 := L.t80; have a80 := L.a80; have z80 := L.z80; have v80 := L.v80; have aE := L.aE; have zE := L.zE
  have HI : Aside _ := hins
  have HM : Aside _ := symMerge L enc cf hO g cb eg blk off cap d0 w0 hcmp R
  have S0 : Aside (SWK enc k w0 blk off d w) := S
  clear S hcmp hins
  have e97 : ∀ args w, (callFunc 97 args).run P w = .ok (.enter 97 args) w := enters_of L.f_ins (by kernel_rfl) rfl
  have e98 : ∀ args w, (callFunc 98 args).run P w = .ok (.enter 98 args) w := enters_of L.f_sym (by kernel_rfl) rfl
  obtain ⟨n, hn⟩ : ∃ n, n = d.size := ⟨_, rfl⟩
  have HN : Hid (n = d.size) := hn
  have hn1 : n ≤ d.size := by omega
  have hn2 : d.size ≤ n := by omega
  rw [← hn] at hs ⊢
  clear hn
  go_enter L.f_stb, Try.ntmps93
  go_wp2
  go_loopg [7, 8] n (fun kx s7 s8 wr => ∃ (t a : Nat) (dk : Array α), s7 = .int .i64 a ∧ s8 = .int .i64 ((a : Int) + 20) ∧ a ≤ n ∧ n - a ≤ kx ∧ dk.size ≤ n ∧ n ≤ dk.size ∧ Aside (SWK enc k w0 blk off dk wr) ∧ Hid (a = t * 20 ∧ PermIn 0 n d dk ∧ RunsTo (ltOf cf) 20 t dk))
  case atStart => exact ⟨0, 0, d, rfl, rfl, Nat.zero_le _, Nat.le_refl _, hn2, hn1, S0, (Nat.zero_mul 20).symm, permIn_refl _ _ _, runsTo_zero _ _⟩
  case round =>
    clear S0
    obtain ⟨t, a, dk, rfl, rfl, han, hkx, hd1, hd2, S1, HQ⟩ := hrel
    have hdk : dk.size = n := by omega
    by_cases hlt : a + 20 ≤ n
    · have hltz : (a : Int) + 20 ≤ (n : Int) := by omega
      have hcall := HI.out a (a + 20) dk wr (by omega) S1.out (by omega) (by omega) (by omega)
      rw [hdk, show ((a + 20 : Nat) : Int) = (a : Int) + 20 by omega] at hcall
      clear S1 hdk
      go_wp2_with (go_at_fn 97; refine hcall.mono ?_; rintro e w1 ⟨rfl, d', S3, hP, hS⟩)
      go_roundg (n - (a + 20))
      case measure => omega
      case rel =>
        obtain ⟨ha, hq, hr⟩ := HQ.out
        have hps := hP.1
        refine ⟨t + 1, a + 20, d', by go_num, by congr 1, by omega, Nat.le_refl _, by omega, by omega, S3, by omega, permIn_trans _ _ _ _ _ hq (permIn_mono _ _ _ _ _ _ (Nat.zero_le _) (by omega) (by omega) hP), ?_⟩
        subst ha
        exact runsTo_step hr hP hS
    · have hltz : ¬ (a : Int) + 20 ≤ (n : Int) := by omega
      have hcall := HI.out a n dk wr (by omega) S1.out (by omega) (by omega) (by omega)
      rw [hdk] at hcall
      clear S1 hdk
      go_wp2_with (go_at_fn 97; refine hcall.mono ?_; rintro e w1 ⟨rfl, d1, S3, hP, hS⟩)
      have HR : Hid (d1.size = n ∧ PermIn 0 n d d1 ∧ Runs (ltOf cf) 20 n d1) := by
        obtain ⟨ha, hq, hr⟩ := HQ.out
        refine ⟨by rw [hP.1]; omega, permIn_trans _ _ _ _ _ hq (permIn_mono _ _ _ _ _ _ (Nat.zero_le _) (Nat.le_refl _) (by omega) hP), ?_⟩
        subst ha
        exact runsTo_end hr hP hS (by omega)
      have S4 : Aside (SWK enc k w0 blk off d1 w1) := S3
      clear HQ hP hS S3
      go_loopg [6] n (fun kx s6 wr => ∃ (s : Nat) (dk : Array α), s6 = .int .i64 s ∧ 0 < s ∧ s < 2305843009213693952 ∧ n - s ≤ kx ∧ dk.size ≤ n ∧ n ≤ dk.size ∧ Aside (SWK enc k w0 blk off dk wr) ∧ Hid (PermIn 0 n d dk ∧ Runs (ltOf cf) s n dk))
      case atStart => exact ⟨20, d1, rfl, by omega, by omega, by omega, by have := HR.out.1; omega, by have := HR.out.1; omega, S4, HR.out.2⟩
      case round =>
        clear S4 HR
        obtain ⟨s, dk, rfl, hs0, hsb, hkx2, hd3, hd4, S1, HQ⟩ := hrel
        by_cases hlt2 : s < n
        · have hltz2 : (s : Int) < (n : Int) := by omega
          have hs1 : s < 1152921504606846976 := by omega
          go_wp2
          go_loopg [7, 8] n (fun kx s7 s8 wr => ∃ (t a : Nat) (dj : Array α), s7 = .int .i64 a ∧ s8 = .int .i64 ((a : Int) + 2 * (s : Int)) ∧ a ≤ n ∧ n - a ≤ kx ∧ dj.size ≤ n ∧ n ≤ dj.size ∧ Aside (SWK enc k w0 blk off dj wr) ∧ Hid (a = t * (2 * s) ∧ PermIn 0 n d dj ∧ Half (ltOf cf) s n t dj))
          case atStart => exact ⟨0, 0, dk, rfl, by congr 1; omega, Nat.zero_le _, Nat.le_refl _, hd3, hd4, S1, (Nat.zero_mul _).symm, HQ.out.1, half_start HQ.out.2⟩
          case round =>
            clear S1 HQ
            obtain ⟨t, a, dj, rfl, rfl, han2, hkx3, hd5, hd6, S1, HQ⟩ := hrel
            have hdj : dj.size = n := by omega
            by_cases hlt3 : a + 2 * s ≤ n
            · have hltz3 : (a : Int) + 2 * (s : Int) ≤ (n : Int) := by omega
              have hrun : SortedIn (ltOf cf) a (a + s) dj ∧ SortedIn (ltOf cf) (a + s) (a + 2 * s) dj := by
                obtain ⟨ha, hq, hr⟩ := HQ.out
                subst ha
                exact half_runs hr hlt3
              have hcall := HM.out (a + 2 * s - a + 1) a (a + s) (a + 2 * s) dj wr (by omega) (by omega) S1.out (by omega) (by omega) (by omega) (by omega) hrun.1 hrun.2
              rw [hdj, show ((a + s : Nat) : Int) = (a : Int) + (s : Int) by omega, show ((a + 2 * s : Nat) : Int) = (a : Int) + 2 * (s : Int) by omega] at hcall
              clear S1 hdj hrun
              go_wp2_with (go_at_fn 98; refine hcall.mono ?_; rintro e w2 ⟨rfl, d', S3, hP, hS⟩)
              go_roundg (n - (a + 2 * s))
              case measure => omega
              case rel =>
                obtain ⟨ha, hq, hr⟩ := HQ.out
                have hps := hP.1
                refine ⟨t + 1, a + 2 * s, d', by first | (congr 1; done) | (congr 1; omega), by first | (congr 1; done) | (congr 1; omega), by omega, Nat.le_refl _, by omega, by omega, S3, by rw [ha, Nat.add_mul, Nat.one_mul], permIn_trans _ _ _ _ _ hq (permIn_mono _ _ _ _ _ _ (Nat.zero_le _) (by omega) (by omega) hP), ?_⟩
                subst ha
                exact half_step hr hP hS
            · have hltz3 : ¬ (a : Int) + 2 * (s : Int) ≤ (n : Int) := by omega
              by_cases hlt4 : a + s < n
              · have hltz4 : (a : Int) + (s : Int) < (n : Int) := by omega
                have hrun : SortedIn (ltOf cf) a (a + s) dj ∧ SortedIn (ltOf cf) (a + s) n dj := by
                  obtain ⟨ha, hq, hr⟩ := HQ.out
                  subst ha
                  exact half_tail hr (by omega) hlt4
                have hcall := HM.out (n - a + 1) a (a + s) n dj wr (by omega) (by omega) S1.out (by omega) (by omega) (by omega) (by omega) hrun.1 hrun.2
                rw [hdj, show ((a + s : Nat) : Int) = (a : Int) + (s : Int) by omega] at hcall
                clear S1 hdj hrun
                go_wp2_with (go_at_fn 98; refine hcall.mono ?_; rintro e w2 ⟨rfl, d', S3, hP, hS⟩)
                go_roundg (n - 2 * s)
                case measure => omega
                case rel =>
                  obtain ⟨ha, hq, hr⟩ := HQ.out
                  have hps := hP.1
                  refine ⟨2 * s, d', by congr 1; omega, by omega, by omega, Nat.le_refl _, by omega, by omega, S3, permIn_trans _ _ _ _ _ hq (permIn_mono _ _ _ _ _ _ (Nat.zero_le _) (by omega) (by omega) hP), ?_⟩
                  subst ha
                  exact half_end hr (by omega) hP hS
              · have hltz4 : ¬ (a : Int) + (s : Int) < (n : Int) := by omega
                go_wp2_with fail
                go_roundg (n - 2 * s)
                case measure => omega
                case rel =>
                  obtain ⟨ha, hq, hr⟩ := HQ.out
                  refine ⟨2 * s, dj, by congr 1; omega, by omega, by omega, Nat.le_refl _, by omega, by omega, S1, hq, ?_⟩
                  subst ha
                  exact half_end hr (by omega) (permIn_refl _ _ _) (half_short hr (by omega))
        · have hltz2 : ¬ (s : Int) < (n : Int) := by omega
          go_wp2
          go_end0
          exact ⟨rfl, dk, S1.out, HQ.out.1, runs_whole HQ.out.2 (by omega)⟩

set_option maxHeartbeats 8000000 in
set_option maxRecDepth 1000000 in
/-- slices.SortStableFunc. -/
theorem sortStable (F : P.funcs[69]? = some Try.f69) (L : Facts P k) (enc : α → List Value) (cf : α → α → Int) (hO : SWO (ltOf cf)) (g : Nat) (cb : Array Value) (eg : ∀ args w, (callFunc g args).run P w = .ok (.enter g args) w) (blk off cap : Nat) (d0 : Array α) (w0 : World) (hcmp : CmpLays P g cb enc k cf blk off d0.size w0) (R : RowK enc k w0 blk off d0) (hins : Ins P k enc cf g cb blk off cap d0 w0) (S : SWK enc k w0 blk off d0 w0) (hsz : d0.size < 1152921504606846976) :
    Calls P 69 #[.slice (some ⟨blk, off, none⟩) d0.size cap, .func (.func g) #[] cb] w0 fun e w' =>
      e = .returned (.tuple #[]) ∧ ∃ d', SWK enc k w0 blk off d' w' ∧ PermIn 0 d0.size d0 d' ∧ SortedIn (ltOf cf) 0 d0.size d' := by
  have mixed := L.mixed; have t0 := L.t0; have a0 := L.a0; have z0 := L.z0; have v0 := L.v0; have t3 := L.t3; have a3 := L.a3; have z3 := L.z3; have v3 := L.v3; have t4 := L.t4; have a4 := L.a4; have z4 := L.z4; have v4 := L.v4; have t60 := L.t60; have a60 := L.a60; have z60 := L.z60; have v60 := L.v60; have t66 := L.t66; have a66 := L.a66; have z66 := L.z66; have v66 := L.v66; have t80 := L.t80; have a80 := L.a80; have z80 := L.z80; have v80 := L.v80; have aE := L.aE; have zE := L.zE
  have e93 : ∀ args w, (callFunc 93 args).run P w = .ok (.enter 93 args) w := enters_of L.f_stb (by kernel_rfl) rfl
  have hcall := stable L enc cf hO g cb eg blk off cap d0 w0 hcmp R hins d0 w0 rfl S hsz
  clear hins S hcmp
  go_enter F, Try.ntmps69
  go_wp2_with (go_at_fn 93; refine hcall.mono ?_; rintro e w1 ⟨rfl, d', S3, hP, hS⟩)
  go_end0
  exact ⟨rfl, d', S3, hP, hS⟩

end Go.Proofs.Ytcgajgmcjgoipaa.Stab
