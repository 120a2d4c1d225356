import Derived.Test.YtolgcoapehmekaaHChunk
namespace Go.Proofs.Ytolgcoapehmekaa.Base
open Go.RowKit Go.Shelf Go.Proofs.YtolgcoapehmekaaW.PrintWords

attribute [local go_sem] Oper.semAt_some

/-- The number that the first i bits of the chunk j make. -/
def bitNum (l : List Int) (j : Nat) : Nat → Int
  | 0 => 0
  | i + 1 => 2 * bitNum l j i + rd l ((8 * j + i : Nat) : Int)
def isBitB (x : Int) : Bool := decide (x = 0 ∨ x = 1)
theorem bits_at (l : List Int) (h : l.all isBitB = true) (i : Int) : 0 ≤ rd l i ∧ rd l i ≤ 1 := by
  unfold rd
  rw [List.getD_eq_getElem?_getD]
  by_cases hi : i.toNat < l.length
  · have := List.all_eq_true.1 h _ (List.getElem_mem hi)
    unfold isBitB at this
    have := of_decide_eq_true this
    simp [hi]
    omega
  · simp [hi]
theorem bitNum_range (l : List Int) (h : l.all isBitB = true) (j i : Nat) : 0 ≤ bitNum l j i ∧ bitNum l j i < 2 ^ i := by
  induction i with
  | zero => simp [bitNum]
  | succ i ih =>
    have := bits_at l h ((8 * j + i : Nat) : Int)
    simp only [bitNum, Int.pow_succ]
    omega
theorem bitNum_small (l : List Int) (h : l.all isBitB = true) (j i : Nat) (hi : i ≤ 8) : 0 ≤ bitNum l j i ∧ bitNum l j i ≤ 255 := by
  have hr := bitNum_range l h j i
  have : (2 : Int) ^ i ≤ 2 ^ 8 := by
    have : (2 : Nat) ^ i ≤ 2 ^ 8 := Nat.pow_le_pow_right (by decide) hi
    exact_mod_cast this
  have e : (2 : Int) ^ 8 = 256 := by decide
  omega
def byteAt (l : List Int) (j : Nat) : Int := bitNum l j 8

theorem binfo5 : (Try.prog.info? 5).map (fun i => (i.zero, i.size, i.bytes)) = some (some (.int .u8 0), 1, 1) := by kernel_rfl
set_option maxRecDepth 100000 in
set_option maxHeartbeats 4000000 in
theorem bytesOf_yes (F : Fence) (n : Nat) (h30 : F.fn 30) (h47 : F.fn 47) (h49 : F.fn 49) (h53 : F.fn 53) (hro : F.round = none) (hn : 5 ≤ n) (A : Option Addr) (c0 : Nat) (l : List Int) (N len : Nat) (hN : Aside0 (len = 8 * N)) (hl : len ≤ 4800) (hc0 : len ≤ c0) (hb : Aside0 (l.all isBitB = true)) (w : World)
    (hr0 : Aside0 (Kd.C (Kd.int .i64) w A len l))
    (hall : CallsIn F (n - 1) Try.prog 47 #[.slice A len c0, .func (.func 48) #[] #[]] w fun e w' => e = .returned (.bool true) ∧ Below w.heap.size w w')
    (hmk : ∀ W, CallsIn F (n - 1) Try.prog 49 #[.slice A len c0, .int .i64 8] W fun e w' => e = .returned (.func (.func 53) #[] #[.pointer (some ⟨W.heap.size, 0, none⟩), .pointer (some ⟨W.heap.size + 1, 0, none⟩)]) ∧ w' = (W.alloc (.cells #[.slice A len c0] 32)).alloc (.cells #[.int .i64 8] 3)) :
    CallsIn F n Try.prog 30 #[.slice A len c0] w fun e w' => ∃ v0_ : Value, e = .returned (.tuple #[v0_, .bool true]) ∧ Kd.R (Kd.int .u8) 5 w' w.heap.size (fun _ => True) v0_ ((List.range N).map (byteAt l)) ∧ Below w.heap.size w w' := by
  have h1 : 1 ≤ n := by omega
  refine callsIn_of_wp_marks Try.func30 rfl h30 ?_ hro
  simp only [Try.ntmps30, List.size_toArray, List.length_cons, List.length_nil, Nat.reduceAdd, Nat.reduceSub, Array.replicate_succ, Array.replicate_zero, List.push_toArray, List.append_toArray, List.nil_append, List.cons_append]
  have t2 : decide ((0 : Int) < (len : Int) % 8) = false := decide_eq_false (by have := hN.out; omega)
  have t3 : decide (4800 < (len : Int)) = false := decide_eq_false (by omega)
  gi_wp2_with (first | (gi_at_call 47; refine hall.mono ?_; rintro e w' ⟨rfl, hb1⟩) | (gi_at_call 49; refine (hmk _).mono ?_; rintro e w' ⟨rfl, rfl⟩))
  have bO := Boxed.new w' 22 (.slice none 0 0)
  have bS := Boxed.new (w'.alloc (.cells #[.slice none 0 0] 22)) 32 (.slice A len c0)
  rw [World.size_alloc] at bS
  have bM := Boxed.new ((w'.alloc (.cells #[.slice none 0 0] 22)).alloc (.cells #[.slice A len c0] 32)) 3 (.int .i64 8)
  rw [World.size_alloc, World.size_alloc] at bM
  have hB0 : Below w.heap.size w (((w'.alloc (.cells #[.slice none 0 0] 22)).alloc (.cells #[.slice A len c0] 32)).alloc (.cells #[.int .i64 8] 3)) := below_alloc (below_alloc (below_alloc hb1 _) _) _
  have hle := hb1.size
  obtain ⟨ad, hA⟩ : ∃ ad, 0 < N → A = some ad := by
    rcases Nat.eq_zero_or_pos N with h | h
    · exact ⟨⟨0, 0, none⟩, fun h' => absurd h' (by omega)⟩
    · obtain ⟨ad, e, _⟩ := Kd.at_int hr0.out 0 (by omega) (by have := hN.out; omega)
      exact ⟨ad, fun _ => e⟩
  obtain ⟨i0, hi, hz0, hz1, hz2⟩ := info_parts binfo5
  refine wpIn_rangeFunc_ownF hro h1 (gf := 53) (lb := #[.pointer (some ⟨w'.heap.size + 1, 0, none⟩), .pointer (some ⟨w'.heap.size + 1 + 1, 0, none⟩)]) rfl h53 (enters_of Try.func53 (by kernel_rfl) rfl)
    (chunk_stops F (n - 1) h53 hro (by omega) (w'.heap.size + 1) (w'.heap.size + 1 + 1) A ad 8 N c0 (by omega) (by omega) hA len hN.out hc0 (by omega) _ (bS.alloc _) bM) kpB_t kpB_b (Below.refl _ _) (fun _ => rfl)
    (fun (pre : List (Fin N)) W => (∃ v, Boxed W w'.heap.size 22 v ∧ W.ownsRow w.heap.size 5 1 v pre.length (encs (Value.int .u8) (pre.map fun x : Fin N => byteAt l x.1)) ∧ True) ∧ (Boxed W (w'.heap.size + 1) 32 (.slice A len c0) ∧ Boxed W (w'.heap.size + 1 + 1) 3 (.int .i64 8)) ∧ Below w.heap.size w W)
    (fun _ _ _ => False)
    (OwnFrom.and (Own.from (holdsRow_own _ _ _ _ _ (fun (pre : List (Fin N)) => pre.length) (fun (pre : List (Fin N)) => encs (Value.int .u8) (pre.map fun x : Fin N => byteAt l x.1)) (fun _ _ => True)) _) (OwnFrom.and (OwnFrom.and (Own.from (own_boxed _ _ _) _) (Own.from (own_boxed _ _ _) _)) (ownFrom_below (Nat.le_refl _) (by simp; omega))))
    (fun _ _ _ _ _ hs _ _ => hs)
    ⟨⟨_, (bO.alloc _).alloc _, own_nil _ _ _ _, trivial⟩, ⟨bS.alloc _, bM⟩, hB0⟩
    (fun x => { tmps := #[.slice A len c0, undef, .slice none 0 0, .bool false, .pointer (some ⟨w'.heap.size, 0, none⟩), chunkV ad 8 x.1, undef, undef, undef, .slice A len c0, .int .i64 len, .int .i64 ((len : Int) % 8), .bool false, .bool false, .slice A len c0, .int .i64 len, .bool false, .bool false, .bool false, .slice A len c0, .bool true, .bool false, .bool false, .slice A len c0,
      .func (.func 53) #[] #[.pointer (some ⟨w'.heap.size + 1, 0, none⟩), .pointer (some ⟨w'.heap.size + 1 + 1, 0, none⟩)], chunkV ad 8 x.1, undef, undef, undef, undef, undef, undef, undef, undef, undef, undef, undef, undef, undef, undef, undef, undef, undef], defers := [] }) ?assign ?body ?done ?stop
  case assign =>
    intro l x W K hK
    gi_wp2
    exact hK
  case body =>
    rintro ll pre x W ⟨⟨v, hv, hrow, _⟩, ⟨hs, hm⟩, hB⟩ hpre
    obtain ⟨j, hj⟩ := x
    have hlen8 := hN.out
    have hA' := hA (by omega)
    subst hA'
    have hcell : ∀ i : Nat, i < 8 → W.cell? ((ad.add (8 * j)).add i) = some (.int .i64 (rd l ((8 * j + i : Nat) : Int))) := by
      intro i hi
      obtain ⟨ad', e, h⟩ := Kd.at_int (Kd.C_below hr0.out hB) ((8 * j + i : Nat) : Int) (by omega) (by omega)
      cases e
      rw [Int.toNat_natCast] at h
      rw [add_add]
      exact h
    have hbits := fun i : Nat => bits_at l hb.out ((8 * j + i : Nat) : Int)
    have hsm := fun (i : Nat) (hi : i ≤ 8) => bitNum_small l hb.out j i hi
    have hstep : ∀ i : Nat, bitNum l j (i + 1) = 2 * bitNum l j i + rd l ((8 * j + i : Nat) : Int) := fun i => rfl
    have hz : bitNum l j 0 = 0 := rfl
    have hby : byteAt l j = bitNum l j 8 := rfl
    have hsnoc : pre.map (fun x : Fin N => byteAt l x.1) ++ [byteAt l j] = (pre ++ [(⟨j, hj⟩ : Fin N)]).map (fun x : Fin N => byteAt l x.1) := by simp
    generalize pre.map (fun x : Fin N => byteAt l x.1) = Pre at hrow hsnoc
    generalize byteAt l j = byt at hby hsnoc
    generalize bitNum l j = bn at hsm hstep hz hby
    obtain ⟨g, hg⟩ : ∃ g : Nat → Int, ∀ i, rd l ((8 * j + i : Nat) : Int) = g i := ⟨_, fun _ => rfl⟩
    simp only [hg] at hcell hbits hstep
    simp only [chunkV]
    generalize ad.add (8 * j) = aj at *
    have HS := Aside0.mk hstep
    have HC := Aside0.mk hcell
    have HZ := Aside0.mk hz
    have HY := Aside0.mk hby
    have HN := Aside0.mk hsnoc
    have HP := Aside0.mk hsm
    have HG := Aside0.mk hbits
    have hcv := hv.cell
    have hfv := hv.frozen
    have hpl : pre.length < 601 := by omega
    clear hstep hcell hz hby hsnoc hsm hbits hg hlen8 hA bS bM hB0 hall hmk bO t2 t3 hN hb
    gi_wp2
    gi_loopw [6, 28] (fun n6 i28 wr => ∃ i : Nat, i ≤ 8 ∧ i28 = .int .i64 i ∧ ∃ m : Int, Aside0 (m = bn i) ∧ 0 ≤ m ∧ m ≤ 255 ∧ n6 = .int .i64 m ∧ wr = W) (fun _ i28 _ => 8 - (intOf i28).toNat)
    case atStart => exact ⟨0, by omega, rfl, 0, ⟨HZ.out.symm⟩, by omega, by omega, rfl, rfl⟩
    case round =>
      obtain ⟨i, hi8, rfl, m, hm1, hm2, hm3, rfl, rfl⟩ := hrel
      by_cases hlt : i < 8
      · have hc := HC.out i hlt
        have hb1 := HG.out i
        have hb2 := HP.out (i + 1) (by omega)
        have e1 := HS.out i
        rw [← hm1.out] at e1
        have HE := Aside0.mk e1
        rw [e1] at hb2
        clear e1
        generalize g i = gi at hc hb1 HE hb2
        gi_wp2
        go_roundw
        case rel => exact ⟨i + 1, by omega, by go_num, _, ⟨HE.out.symm⟩, by omega, by omega, rfl, (by first | rfl | trivial)⟩
        case measure => simp [intOf]; omega
      · obtain rfl : i = 8 := by omega
        have e1 := hm1.out
        rw [← HY.out] at e1
        subst e1
        have hw1 : w.heap.size ≤ wr.heap.size := hB.size
        have hml : pre.length + 1 ≤ maxLen := by unfold maxLen; omega
        gi_wp2_with (gi_at_builtin; refine wpListIn_append_own _ rfl _ _ 22 rfl w.heap.size 5 i0 (.int .u8 0) 1 1 Try.underlying22 hi hz0 hz1 hz2 rfl (by decide) _ _ _ rfl (hrow.alloc _) ⟨wr.heap.size, 0, none⟩ 1 1 [.int .u8 m] rfl rfl (cell_one_new _ _ _) (by simp [Value.oneCell']) hml (by omega) (by simp; omega) ?_; intro v' w1 hown' hgrow _; obtain ⟨g', cap', rfl⟩ := ownsRow_succ hown'; have hkp : ∀ B, (B = w'.heap.size + 1 ∨ B = w'.heap.size + 1 + 1) → ∀ t u, Boxed wr B t u → ∀ x, Boxed (w1.setCell ⟨w'.heap.size, 0, none⟩ x) B t u := (fun B hB' t u hu x => ((hu.alloc _).kept hgrow (by rcases hB' with rfl | rfl; exact hs.not_row (by decide) hrow; exact hm.not_row (by decide) hrow)).kept (grownBy_setCell' w1 w'.heap.size x) (by intro e; injection e; omega)); obtain ⟨hv1, hv2, hr2, hk2, hb2⟩ := hv.appended (by decide) hrow hB.size hle hown' hgrow; have hc1 := hv1.cell; have hf1 := hv1.frozen)
        have hr3 : (w1.setCell ⟨w'.heap.size, 0, none⟩ (.slice (some ⟨g', 0, none⟩) (pre.length + 1) cap')).ownsRow w.heap.size 5 1 (.slice (some ⟨g', 0, none⟩) (pre.length + 1) cap') (pre ++ [(⟨j, hj⟩ : Fin N)]).length (encs (Value.int .u8) ((pre ++ [(⟨j, hj⟩ : Fin N)]).map fun x : Fin N => byteAt l x.1)) := by
          rw [← HN.out, encs_append, List.length_append]
          exact hr2
        exact ⟨hk2, fun B hB' t u hu => hkp B hB' t u hu _, ⟨_, hv2, hr3, trivial⟩, ⟨hkp _ (.inl rfl) _ _ hs _, hkp _ (.inr rfl) _ _ hm _⟩, hB.trans hb2⟩
  case done =>
    rintro D ys W hD rfl ⟨⟨v, hv, hrow, _⟩, _, hB⟩ hK
    have hcv := hv.cell
    gi_wp2
    refine ⟨by simp, .inl ⟨_, _, rfl, run_takeDeferred hK, ?_⟩⟩
    have e1 : (List.finRange N).map (fun x : Fin N => byteAt l x.1) = (List.range N).map (byteAt l) := List.ext_getElem (by simp) (by simp)
    rw [e1] at hrow
    have hrow2 := ownsRow_putObj hrow (.deferred none) hK rfl
    refine ⟨.tuple #[v, .bool true], by simp [results, Try.f30, go_sem], v, rfl, Kd.R_of_own (by simpa using hrow2) (fun _ _ => trivial), ?_⟩
    exact hB.trans (belowK_b (w := w) (Nat.le_refl _) W D _ _ (by simp at hD; omega) hK rfl rfl)
  case stop =>
    rintro D c pre W _ _ h _
    exact h.elim
theorem bytesOf_no (A : Option Addr) (c0 : Nat) (len : Nat) (hbig : len ≤ 9223372036854775807) (h : ¬ (len % 8 = 0 ∧ len ≤ 4800)) (w : World) :
    Calls Try.prog 30 #[.slice A len c0] w fun e w' => ∃ v0_ : Value, e = .returned (.tuple #[v0_, .bool false]) ∧ Kd.R (Kd.int .u8) 5 w' w.heap.size (fun _ => True) v0_ [] ∧ Below w.heap.size w w' := by
  by_cases h8 : len % 8 = 0
  · have t2 : decide ((0 : Int) < (len : Int) % 8) = false := decide_eq_false (by omega)
    have t3 : decide (4800 < (len : Int)) = true := decide_eq_true (by omega)
    clear h h8
    go_enter Try.func30, Try.ntmps30
    go_wp2
    go_ret2
    exact ⟨_, rfl, Kd.R_nil _ _ _ _ _, Below.refl _ _⟩
  · have t2 : decide ((0 : Int) < (len : Int) % 8) = true := decide_eq_true (by omega)
    clear h h8
    go_enter Try.func30, Try.ntmps30
    go_wp2
    go_ret2
    exact ⟨_, rfl, Kd.R_nil _ _ _ _ _, Below.refl _ _⟩
theorem bytesOf_bad (A : Option Addr) (c0 : Nat) (len : Nat) (h1 : len % 8 = 0) (h2 : len ≤ 4800) (w : World)
    (hall : Calls Try.prog 47 #[.slice A len c0, .func (.func 48) #[] #[]] w fun e w' => e = .returned (.bool false) ∧ Below w.heap.size w w') :
    Calls Try.prog 30 #[.slice A len c0] w fun e w' => ∃ v0_ : Value, e = .returned (.tuple #[v0_, .bool false]) ∧ Kd.R (Kd.int .u8) 5 w' w.heap.size (fun _ => True) v0_ [] ∧ Below w.heap.size w w' := by
  have t2 : decide ((0 : Int) < (len : Int) % 8) = false := decide_eq_false (by omega)
  have t3 : decide (4800 < (len : Int)) = false := decide_eq_false (by omega)
  clear h1
  go_enter Try.func30, Try.ntmps30
  go_wp2_with (go_at_call 47; refine hall.mono ?_; rintro e w' ⟨rfl, hb1⟩)
  go_ret2
  exact ⟨_, rfl, Kd.R_nil _ _ _ _ _, hb1⟩
/-- What impl.BytesOf answers. -/
def bytesOf (l : List Int) : List Int × Bool := if l.length % 8 = 0 ∧ l.length ≤ 4800 ∧ l.all isBitB = true then ((List.range (l.length / 8)).map (byteAt l), true) else ([], false)
theorem bytesOf_calls (A : Option Addr) (c0 : Nat) (l : List Int) (hc0 : l.length ≤ c0) (w : World) (hr0 : Kd.C (Kd.int .i64) w A l.length l)
    (hall : Calls Try.prog 47 #[.slice A l.length c0, .func (.func 48) #[] #[]] w fun e w' => e = .returned (.bool (l.all isBitB)) ∧ Below w.heap.size w w') :
    Calls Try.prog 30 #[.slice A l.length c0] w fun e w' => ∃ v0_ : Value, e = .returned (.tuple #[v0_, .bool (bytesOf l).2]) ∧ Kd.R (Kd.int .u8) 5 w' w.heap.size (fun _ => True) v0_ (bytesOf l).1 ∧ Below w.heap.size w w' := by
  by_cases h8 : l.length % 8 = 0 ∧ l.length ≤ 4800
  · by_cases hb : l.all isBitB = true
    · rw [show bytesOf l = ((List.range (l.length / 8)).map (byteAt l), true) from if_pos ⟨h8.1, h8.2, hb⟩]
      rw [hb] at hall
      exact callsIn_wide.1 (bytesOf_yes Fence.wide 5 trivial trivial trivial trivial rfl (by omega) A c0 l (l.length / 8) l.length ⟨by omega⟩ h8.2 hc0 ⟨hb⟩ w ⟨hr0⟩ (callsIn_wide.2 hall) (fun W => callsIn_wide.2 (chunk_maker A l.length c0 8 (by omega) W)))
    · have hb' : l.all isBitB = false := by simpa using hb
      rw [show bytesOf l = ([], false) from if_neg (fun h => hb h.2.2)]
      rw [hb'] at hall
      exact bytesOf_bad A c0 l.length h8.1 h8.2 w hall
  · rw [show bytesOf l = ([], false) from if_neg (fun h => h8 ⟨h.1, h.2.1⟩)]
    exact bytesOf_no A c0 l.length (Kd.C_max hr0) h8 w
theorem isBit_fn (w : World) : FnBool Try.prog 48 #[] (Value.int .i64) isBitB w := by
  intro W x _
  show Calls Try.prog 48 #[.int .i64 x] W fun e w' => e = .returned (.bool (isBitB x)) ∧ ∃ q, w' = W.drewN q
  unfold isBitB
  by_cases h0 : x = 0
  · subst h0
    go_enter Try.func48, Try.ntmps48
    go_wp2
    go_ret
    exact ⟨by simp, 0, rfl⟩
  · have b0 : (x == 0) = false := by simpa using h0
    rw [show decide (x = 0 ∨ x = 1) = (x == 1) by by_cases h1 : x = 1 <;> simp [h0, h1]]
    clear h0
    go_enter Try.func48, Try.ntmps48
    go_wp2
    go_ret
    exact ⟨rfl, 0, rfl⟩
end Go.Proofs.Ytolgcoapehmekaa.Base
