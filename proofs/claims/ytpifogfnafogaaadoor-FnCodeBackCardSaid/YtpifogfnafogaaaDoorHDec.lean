import Derived.Test.YtpifogfnafogaaaDoorHChunkB
import Derived.Test.YtpifogfnafogaaaDoorHNib
import Derived.Test.YtpifogfnafogaaaDoorWMore
import Derived.BigRegionIn
import Derived.RangeFuncCalls
import Derived.Test.YtpifogfnafogaaaDoorWLast
namespace Go.Proofs.YtpifogfnafogaaaDoor.Base
open Go.RowKit Go.Shelf Go.Proofs.YtpifogfnafogaaaDoorW.PrintWords Go.Proofs.YtpifogfnafogaaaDoorW.PrintLast Go.Proofs.YtpifogfnafogaaaDoorW.PrintMore

attribute [local go_sem] Oper.semAt_some min2_int min_two

def lowB (x : Int) : Bool := decide (127 < x)
/-- The byte of the two codes at the place j, and how many of the two were mended. -/
def decAt (l : List Int) (j : Nat) : Int := 16 * (decN (rd l ((2 * j : Nat) : Int))).1 + (decN (rd l ((2 * j + 1 : Nat) : Int))).1
def cut1 (o : Int) : Int := if 1 < o then 1 else o
def trnAt (l : List Int) (j : Nat) : Int := cut1 (decN (rd l ((2 * j : Nat) : Int))).2 + cut1 (decN (rd l ((2 * j + 1 : Nat) : Int))).2
theorem own_boxedF {β : Type} (B : Nat) (t : TypeId) (f : β → Value) : Own (fun (s : β) W => Boxed W B t (f s)) := by
  rintro s X Y row h hg hrow
  refine h.kept hg (fun e => ?_)
  obtain ⟨o, ho, hc⟩ := hrow B e.symm
  rw [show X.heap[B]? = _ from h] at ho
  cases ho
  cases hc
theorem Boxed.eq_ {W : World} {B : Nat} {t : TypeId} {v v' : Value} (h : Boxed W B t v) (e : v = v') : Boxed W B t v' := e ▸ h
theorem dec_small : ∀ m : Fin 128, (0 ≤ (decN ((m.1 : Nat) : Int)).1 ∧ (decN ((m.1 : Nat) : Int)).1 ≤ 15) ∧ 0 ≤ (decN ((m.1 : Nat) : Int)).2 ∧ (decN ((m.1 : Nat) : Int)).2 ≤ 7 := by decide +kernel
theorem low_at (l : List Int) (hB : ∀ x ∈ l, 0 ≤ x) (h : l.any lowB = false) (i : Int) : 0 ≤ rd l i ∧ rd l i ≤ 127 := by
  unfold rd
  rw [List.getD_eq_getElem?_getD]
  by_cases hi : i.toNat < l.length
  · have h1 := List.any_eq_false.1 h _ (List.getElem_mem hi)
    unfold lowB at h1
    have h2 := hB _ (List.getElem_mem hi)
    simp at h1
    simp [hi]
    omega
  · simp [hi]
theorem cut_small {o : Int} (h : 0 ≤ o ∧ o ≤ 7) : 0 ≤ cut1 o ∧ cut1 o ≤ 1 := by
  unfold cut1
  split <;> omega
theorem trn_small (l : List Int) (hb : ∀ i, 0 ≤ rd l i ∧ rd l i ≤ 127) (j : Nat) : 0 ≤ trnAt l j ∧ trnAt l j ≤ 2 := by
  obtain ⟨m0, e0⟩ := fin7_of (hb ((2 * j : Nat) : Int))
  obtain ⟨m1, e1⟩ := fin7_of (hb ((2 * j + 1 : Nat) : Int))
  unfold trnAt
  rw [e0, e1]
  have := cut_small (dec_small m0).2
  have := cut_small (dec_small m1).2
  omega
theorem trn_sum {N : Nat} (l : List Int) (hb : ∀ i, 0 ≤ rd l i ∧ rd l i ≤ 127) (pre : List (Fin N)) : 0 ≤ (pre.map fun x : Fin N => trnAt l x.1).sum ∧ (pre.map fun x : Fin N => trnAt l x.1).sum ≤ 2 * pre.length := by
  induction pre with
  | nil => simp
  | cons x r ih =>
    have := trn_small l hb x.1
    simp only [List.map_cons, List.sum_cons, List.length_cons]
    omega
theorem two0 (a b : Int) (w : World) : (Instr.index 48 (.agg #[.int .i64 a, .int .i64 b]) (.int .i64 0)).run Tryd.prog w = .ok (.int .i64 a) w := by kernel_rfl
theorem two1 (a b : Int) (w : World) : (Instr.index 48 (.agg #[.int .i64 a, .int .i64 b]) (.int .i64 1)).run Tryd.prog w = .ok (.int .i64 b) w := by kernel_rfl
attribute [local go_sem] two0 two1

theorem binfo5 : (Tryd.prog.info? 5).map (fun i => (i.zero, i.size, i.bytes)) = some (some (.int .u8 0), 1, 1) := by kernel_rfl
set_option maxRecDepth 100000 in
set_option maxHeartbeats 4000000 in
theorem decB_yes (F : Fence) (n : Nat) (h30 : F.fn 24) (h14 : F.fn 14) (h37 : F.fn 37) (h49 : F.fn 39) (h53 : F.fn 44) (hro : F.round = none) (hn : 5 ≤ n) (A : Option Addr) (c0 : Nat) (l : List Int) (N len : Nat) (hN : Aside0 (len = 2 * N)) (hl : len ≤ 1200) (hc0 : len ≤ c0) (hb : Aside0 (∀ i, 0 ≤ rd l i ∧ rd l i ≤ 127)) (w : World)
    (hr0 : Aside0 (Kd.C (Kd.int .u8) w A len l)) (hG : RulesAt w)
    (hd : ∀ m (x : Int) W, RulesAt W → CallsIn F m Tryd.prog 14 #[.int .i64 x] W fun e w' => e = .returned (.tuple #[.int .i64 (decN x).1, .int .i64 (decN x).2]) ∧ Below W.heap.size W w')
    (hall : CallsIn F (n - 1) Tryd.prog 37 #[.slice A len c0, .func (.func 38) #[] #[]] w fun e w' => e = .returned (.bool false) ∧ ∃ q, w' = w.drewN q)
    (hmk : ∀ W, CallsIn F (n - 1) Tryd.prog 39 #[.slice A len c0, .int .i64 2] W fun e w' => e = .returned (.func (.func 44) #[] #[.pointer (some ⟨W.heap.size, 0, none⟩), .pointer (some ⟨W.heap.size + 1, 0, none⟩)]) ∧ w' = (W.alloc (.cells #[.slice A len c0] 26)).alloc (.cells #[.int .i64 2] 3)) :
    CallsIn F n Tryd.prog 24 #[.slice A len c0] w fun e w' => ∃ v0_ : Value, e = .returned (.tuple #[v0_, .int .i64 (((List.range N).map (trnAt l)).sum)]) ∧ Kd.R (Kd.int .u8) 5 w' w.heap.size (fun _ => True) v0_ ((List.range N).map (decAt l)) ∧ Below w.heap.size w w' := by
  have h1 : 1 ≤ n := by omega
  refine callsIn_of_wp_marks Tryd.func24 rfl h30 ?_ hro
  simp only [Tryd.ntmps24, List.size_toArray, List.length_cons, List.length_nil, Nat.reduceAdd, Nat.reduceSub, Array.replicate_succ, Array.replicate_zero, List.push_toArray, List.append_toArray, List.nil_append, List.cons_append]
  have t2 : decide ((0 : Int) < (len : Int) % 2) = false := decide_eq_false (by have := hN.out; omega)
  have t3 : decide (1200 < (len : Int)) = false := decide_eq_false (by omega)
  gi_wp2_with (first | (gi_at_call 37; refine hall.mono ?_; rintro e w' ⟨rfl, q, rfl⟩) | (gi_at_call 39; refine (hmk _).mono ?_; rintro e w' ⟨rfl, rfl⟩))
  have bO : Boxed ((w.drewN q).alloc (.cells #[.slice none 0 0] 26)) w.heap.size 26 (.slice none 0 0) := Boxed.new (w.drewN q) 26 (.slice none 0 0)
  have bT : Boxed (((w.drewN q).alloc (.cells #[.slice none 0 0] 26)).alloc (.cells #[.int .i64 0] 3)) (w.heap.size + 1) 3 (.int .i64 0) := by
    have := Boxed.new ((w.drewN q).alloc (.cells #[.slice none 0 0] 26)) 3 (.int .i64 0)
    rwa [World.size_alloc] at this
  have bS : Boxed ((((w.drewN q).alloc (.cells #[.slice none 0 0] 26)).alloc (.cells #[.int .i64 0] 3)).alloc (.cells #[.slice A len c0] 26)) (w.heap.size + 1 + 1) 26 (.slice A len c0) := by
    have := Boxed.new (((w.drewN q).alloc (.cells #[.slice none 0 0] 26)).alloc (.cells #[.int .i64 0] 3)) 26 (.slice A len c0)
    rwa [World.size_alloc, World.size_alloc] at this
  have bM : Boxed (((((w.drewN q).alloc (.cells #[.slice none 0 0] 26)).alloc (.cells #[.int .i64 0] 3)).alloc (.cells #[.slice A len c0] 26)).alloc (.cells #[.int .i64 2] 3)) (w.heap.size + 1 + 1 + 1) 3 (.int .i64 2) := by
    have := Boxed.new ((((w.drewN q).alloc (.cells #[.slice none 0 0] 26)).alloc (.cells #[.int .i64 0] 3)).alloc (.cells #[.slice A len c0] 26)) 3 (.int .i64 2)
    rwa [World.size_alloc, World.size_alloc, World.size_alloc] at this
  have hB0 : Below w.heap.size w (((((w.drewN q).alloc (.cells #[.slice none 0 0] 26)).alloc (.cells #[.int .i64 0] 3)).alloc (.cells #[.slice A len c0] 26)).alloc (.cells #[.int .i64 2] 3)) := below_alloc (below_alloc (below_alloc (below_alloc (pw_below_drewN (Below.refl _ _) q) _) _) _) _
  obtain ⟨ad, hA⟩ : ∃ ad, 0 < N → A = some ad := by
    rcases Nat.eq_zero_or_pos N with h | h
    · exact ⟨⟨0, 0, none⟩, fun h' => absurd h' (by omega)⟩
    · obtain ⟨ad, e, _⟩ := Kd.at_int hr0.out 0 (by omega) (by have := hN.out; omega)
      exact ⟨ad, fun _ => e⟩
  obtain ⟨i0, hi, hz0, hz1, hz2⟩ := info_parts binfo5
  refine wpIn_rangeFunc_ownF hro h1 (gf := 44) (lb := #[.pointer (some ⟨w.heap.size + 1 + 1, 0, none⟩), .pointer (some ⟨w.heap.size + 1 + 1 + 1, 0, none⟩)]) rfl h53 (enters_of Tryd.func44 (by kernel_rfl) rfl)
    (chunk_stops F (n - 1) h53 hro (by omega) (w.heap.size + 1 + 1) (w.heap.size + 1 + 1 + 1) A ad 2 N c0 (by omega) (by omega) hA len hN.out hc0 (by omega) _ (bS.alloc _) bM) kpB_t kpB_b (Below.refl _ _) (fun _ => rfl)
    (fun (pre : List (Fin N)) W => (∃ v, Boxed W w.heap.size 26 v ∧ W.ownsRow w.heap.size 5 1 v pre.length (encs (Value.int .u8) (pre.map fun x : Fin N => decAt l x.1)) ∧ True) ∧ Boxed W (w.heap.size + 1) 3 (.int .i64 ((pre.map fun x : Fin N => trnAt l x.1).sum)) ∧ (Boxed W (w.heap.size + 1 + 1) 26 (.slice A len c0) ∧ Boxed W (w.heap.size + 1 + 1 + 1) 3 (.int .i64 2)) ∧ Below w.heap.size w W)
    (fun _ _ _ => False)
    (OwnFrom.and (Own.from (holdsRow_own _ _ _ _ _ (fun (pre : List (Fin N)) => pre.length) (fun (pre : List (Fin N)) => encs (Value.int .u8) (pre.map fun x : Fin N => decAt l x.1)) (fun _ _ => True)) _) (OwnFrom.and (Own.from (own_boxedF _ _ (fun (pre : List (Fin N)) => .int .i64 ((pre.map fun x : Fin N => trnAt l x.1).sum))) _) (OwnFrom.and (OwnFrom.and (Own.from (own_boxed _ _ _) _) (Own.from (own_boxed _ _ _) _)) (ownFrom_below (Nat.le_refl _) (by simp; omega)))))
    (fun _ _ _ _ _ hs _ _ => hs)
    ⟨⟨_, ((bO.alloc _).alloc _).alloc _, own_nil _ _ _ _, trivial⟩, (bT.alloc _).alloc _, ⟨bS.alloc _, bM⟩, hB0⟩
    (fun x => { tmps := #[.slice A len c0, undef, .slice none 0 0, .int .i64 0, .pointer (some ⟨w.heap.size, 0, none⟩), .pointer (some ⟨w.heap.size + 1, 0, none⟩), chunkV ad 2 x.1, undef, undef, undef, undef, undef, undef, .slice A len c0, .int .i64 len, .int .i64 ((len : Int) % 2), .bool false, .bool false, .slice A len c0, .int .i64 len, .bool false, .bool false, .bool false, .slice A len c0, .bool false, .bool false, .slice A len c0,
      .func (.func 44) #[] #[.pointer (some ⟨w.heap.size + 1 + 1, 0, none⟩), .pointer (some ⟨w.heap.size + 1 + 1 + 1, 0, none⟩)], chunkV ad 2 x.1, undef, undef, undef, undef, undef, undef, undef, undef, undef, undef, undef, undef, undef, undef, undef, undef, undef, undef, undef, undef, undef, undef, undef, undef, undef, undef, undef, undef, undef, undef, undef, undef, undef, undef, undef, undef, undef], defers := [] }) ?assign ?body ?done ?stop
  case assign =>
    intro l x W K hK
    gi_wp2
    exact hK
  case body =>
    rintro ll pre x W ⟨⟨v, hv, hrow, _⟩, ht, ⟨hs, hm⟩, hB⟩ hpre
    obtain ⟨j, hj⟩ := x
    have hlen8 := hN.out
    have hA' := hA (by omega)
    subst hA'
    have hcell : ∀ i : Nat, i < 2 → W.cell? ((ad.add (2 * j)).add i) = some (.int .u8 (rd l ((2 * j + i : Nat) : Int))) := by
      intro i hi
      obtain ⟨ad', e, h⟩ := Kd.at_int (Kd.C_below hr0.out hB) ((2 * j + i : Nat) : Int) (by omega) (by omega)
      cases e
      rw [Int.toNat_natCast] at h
      rw [add_add]
      exact h
    have c0' := hcell 0 (by omega)
    have c1' := hcell 1 (by omega)
    have q0 := hb.out ((2 * j + 0 : Nat) : Int)
    have q1 := hb.out ((2 * j + 1 : Nat) : Int)
    have hd0 := fun m => hd m (rd l ((2 * j + 0 : Nat) : Int))
    have hd1 := fun m => hd m (rd l ((2 * j + 1 : Nat) : Int))
    have hda : decAt l j = 16 * (decN (rd l ((2 * j + 0 : Nat) : Int))).1 + (decN (rd l ((2 * j + 1 : Nat) : Int))).1 := rfl
    have htr : trnAt l j = cut1 (decN (rd l ((2 * j + 0 : Nat) : Int))).2 + cut1 (decN (rd l ((2 * j + 1 : Nat) : Int))).2 := rfl
    have hsn1 : pre.map (fun x : Fin N => decAt l x.1) ++ [decAt l j] = (pre ++ [(⟨j, hj⟩ : Fin N)]).map (fun x : Fin N => decAt l x.1) := by simp
    have hsn2 : (pre.map (fun x : Fin N => trnAt l x.1)).sum + trnAt l j = ((pre ++ [(⟨j, hj⟩ : Fin N)]).map (fun x : Fin N => trnAt l x.1)).sum := by simp
    have htb := trn_sum l hb.out pre
    generalize rd l ((2 * j + 0 : Nat) : Int) = y0 at c0' q0 hd0 hda htr
    generalize rd l ((2 * j + 1 : Nat) : Int) = y1 at c1' q1 hd1 hda htr
    obtain ⟨m0, rfl⟩ := fin7_of q0
    obtain ⟨m1, rfl⟩ := fin7_of q1
    have s0 := dec_small m0
    have s1 := dec_small m1
    generalize decN ((m0.1 : Nat) : Int) = d0 at hd0 hda htr s0
    generalize decN ((m1.1 : Nat) : Int) = d1 at hd1 hda htr s1
    obtain ⟨h0, o0⟩ := d0
    obtain ⟨h1', o1⟩ := d1
    simp only at hda htr s0 s1
    have w0 : IntKind.i64.wrap ((m0.1 : Nat) : Int) = ((m0.1 : Nat) : Int) := by rw [IntKind.wrap_i64]; omega
    have w1' : IntKind.i64.wrap ((m1.1 : Nat) : Int) = ((m1.1 : Nat) : Int) := by rw [IntKind.wrap_i64]; omega
    generalize ((m0.1 : Nat) : Int) = y0 at *
    generalize ((m1.1 : Nat) : Int) = y1 at *
    generalize (pre.map fun x : Fin N => decAt l x.1) = Pre at hrow hsn1
    generalize (pre.map fun x : Fin N => trnAt l x.1).sum = tt at ht hsn2 htb
    simp only [chunkV]
    generalize ad.add (2 * j) = aj at *
    replace c0' : W.cell? aj = some (.int .u8 y0) := c0'
    replace c1' : W.cell? ⟨aj.block, aj.off + 1, none⟩ = some (.int .u8 y1) := c1'
    have hko : KeepsOthers W W := KeepsOthers.refl W
    have hk : KpB (w.heap.size + 1 + 1) (w.heap.size + 1 + 1 + 1) W W := fun _ _ _ _ h => h
    have HG := hG.below hB rfl
    have hpl : pre.length < 601 := by omega
    have hml : pre.length + 1 ≤ maxLen := by unfold maxLen; omega
    have hn2 : 1 ≤ n - 1 - 1 := by omega
    have HD := Aside0.mk (And.intro hda htr)
    have HSN := Aside0.mk (And.intro hsn1 hsn2)
    have HC := Aside0.mk hb
    have hcv := hv.cell
    have hfv := hv.frozen
    have hwz := hB.size
    clear hcell hda htr hsn1 hsn2 hlen8 hA bS bM hB0 hall hmk bO bT t2 t3 hN hb hd q0 q1 hr0
    gi_wp2_with (first | (gi_at_call 14; (first | with_reducible refine (CallsIn.inRound ll (hd0 _ _ HG)).mono ?_ | with_reducible refine (CallsIn.inRound ll (hd1 _ _ HG)).mono ?_); rintro e w2 ⟨rfl, hb2⟩; have hg2 := grown_of_below hb2 none; replace hv := hv.kept hg2 (by simp); replace ht := ht.kept hg2 (by simp); replace hs := hs.kept hg2 (by simp); replace hm := hm.kept hg2 (by simp); replace hrow := hrow.kept hg2 (Classical.em _); replace c0' := cell_below c0' hb2 rfl; replace c1' := cell_below c1' hb2 rfl; replace hB := below_then hB hB.size hb2; replace HG := HG.below hb2 rfl; replace hko := hko.trans (KeepsOthers.of_grownBy hg2 (fun _ _ e _ => by cases e)); replace hk := kpB_t hk (fun B _ t u hu => hu.kept hg2 (by simp)); replace hcv := hv.cell; replace hfv := hv.frozen; replace hwz := hB.size; clear hg2 hb2) | (gi_at_builtin; refine wpListIn_append_own _ rfl _ _ 26 rfl w.heap.size 5 i0 (.int .u8 0) 1 1 Tryd.underlying26 hi hz0 hz1 hz2 rfl (by decide) _ _ _ rfl (hrow.alloc _) ⟨w2.heap.size, 0, none⟩ 1 1 [.int .u8 (16 * h0 + h1')] rfl rfl (cell_one_new _ _ _) (by simp [Value.oneCell']) hml (by omega) (by simp; omega) ?_; intro v' w1 hown' hgrow _; obtain ⟨g', cap', rfl⟩ := ownsRow_succ hown'; have hkp : KpB (w.heap.size + 1 + 1) (w.heap.size + 1 + 1 + 1) w2 (w1.setCell ⟨w.heap.size, 0, none⟩ (.slice (some ⟨g', 0, none⟩) (pre.length + 1) cap')) := (fun B hB' t u hu => ((hu.alloc _).kept hgrow (by rcases hB' with rfl | rfl; exact hs.not_row (by decide) hrow; exact hm.not_row (by decide) hrow)).kept (grownBy_setCell' w1 w.heap.size _) (by intro e; injection e; omega)); have ht2 : Boxed (w1.setCell ⟨w.heap.size, 0, none⟩ (.slice (some ⟨g', 0, none⟩) (pre.length + 1) cap')) (w.heap.size + 1) 3 (.int .i64 tt) := ((ht.alloc _).kept hgrow (ht.not_row (by decide) hrow)).kept (grownBy_setCell' w1 w.heap.size _) (by intro e; injection e; omega); obtain ⟨hv1, hv2, hr2, hk2, hb2⟩ := hv.appended (by decide) hrow hB.size (Nat.le_refl _) hown' hgrow; have hc1 := hv1.cell; have hf1 := hv1.frozen; have htc := ht2.cell; have htf := ht2.frozen; have htl := fun x => (ht2.set x).cell; have htz := fun x => (ht2.set x).frozen; replace hko := hko.trans hk2; replace hk := kpB_t hk hkp))
    refine wpIn_loop_rounds 3 ?_
    rw [roundsIn_succ]
    gi_wp2
    all_goals rw [roundsIn_succ]
    all_goals gi_wp2
    all_goals rw [roundsIn_succ]
    all_goals gi_wp2
    all_goals
      have hr3 : (w1.setCell ⟨w.heap.size, 0, none⟩ (.slice (some ⟨g', 0, none⟩) (pre.length + 1) cap')).ownsRow w.heap.size 5 1 (.slice (some ⟨g', 0, none⟩) (pre.length + 1) cap') (pre ++ [(⟨j, hj⟩ : Fin N)]).length (encs (Value.int .u8) ((pre ++ [(⟨j, hj⟩ : Fin N)]).map fun x : Fin N => decAt l x.1)) := by
        rw [← HSN.out.1, HD.out.1, encs_append, List.length_append]
        exact hr2
      refine ⟨(hko.trans (KeepsOthers.setCell _ _ _)).trans (KeepsOthers.setCell _ _ _), kpB_t (kpB_t hk (fun B hB' t u hu => hu.other (by omega) _)) (fun B hB' t u hu => hu.other (by omega) _),
        ⟨_, (hv2.other (by omega) _).other (by omega) _, (hr3.kept (grownBy_setCell' _ (w.heap.size + 1) _) (.inr (ht2.not_row (by decide) hr3).symm)).kept (grownBy_setCell' _ (w.heap.size + 1) _) (.inr (ht2.not_row (by decide) hr3).symm), trivial⟩,
        Boxed.eq_ ((ht2.set _).set _) (congrArg (Value.int .i64) ?_), ⟨((hkp _ (.inl rfl) _ _ hs).other (by omega) _).other (by omega) _, ((hkp _ (.inr rfl) _ _ hm).other (by omega) _).other (by omega) _⟩, ((hB.trans hb2).setCell (by simp) _).setCell (by simp) _⟩
      rw [← HSN.out.2, HD.out.2]
      unfold cut1
      repeat' (first | omega | split)
  case done =>
    rintro D ys W hD rfl ⟨⟨v, hv, hrow, _⟩, ht, _, hB⟩ hK
    have hcv := hv.cell
    have hct := ht.cell
    gi_wp2
    have e1 : (List.finRange N).map (fun x : Fin N => decAt l x.1) = (List.range N).map (decAt l) := List.ext_getElem (by simp) (by simp)
    have e2 : (List.finRange N).map (fun x : Fin N => trnAt l x.1) = (List.range N).map (trnAt l) := List.ext_getElem (by simp) (by simp)
    rw [e1] at hrow
    have hB1 : Below w.heap.size w W.drew := below_drew1 hB
    have hrow1 : W.drew.ownsRow w.heap.size 5 1 v (List.finRange N).length (encs (Value.int .u8) ((List.range N).map (decAt l))) := hrow
    have hrow2 := ownsRow_putObj (W := W.drew) hrow1 (.deferred none) hK rfl
    have hsize : w.heap.size ≤ D := by simp at hD; omega
    gi_region
    all_goals
      gi_wp2
      refine ⟨by simp, .inl ⟨_, _, rfl, run_takeDeferred (w := W.drew) hK, ?_⟩⟩
      refine ⟨.tuple #[v, .int .i64 (((List.range N).map (trnAt l)).sum)], by simp [results, Tryd.f24, go_sem], v, rfl, Kd.R_of_own (by simpa using hrow2) (fun _ _ => trivial), ?_⟩
      exact hB1.trans (belowK_b (w := w) (Nat.le_refl _) W.drew D _ _ hsize hK rfl rfl)
  case stop =>
    rintro D c pre W _ _ h _
    exact h.elim
theorem decB_no (A : Option Addr) (c0 : Nat) (len : Nat) (hbig : len ≤ 9223372036854775807) (h : ¬ (len % 2 = 0 ∧ len ≤ 1200)) (w : World) :
    Calls Tryd.prog 24 #[.slice A len c0] w fun e w' => ∃ v0_ : Value, e = .returned (.tuple #[v0_, .int .i64 (-1)]) ∧ Kd.R (Kd.int .u8) 5 w' w.heap.size (fun _ => True) v0_ [] ∧ Below w.heap.size w w' := by
  by_cases h8 : len % 2 = 0
  · have t2 : decide ((0 : Int) < (len : Int) % 2) = false := decide_eq_false (by omega)
    have t3 : decide (1200 < (len : Int)) = true := decide_eq_true (by omega)
    clear h h8
    go_enter Tryd.func24, Tryd.ntmps24
    go_wp2
    go_ret2
    exact ⟨_, rfl, Kd.R_nil _ _ _ _ _, Below.refl _ _⟩
  · have t2 : decide ((0 : Int) < (len : Int) % 2) = true := decide_eq_true (by omega)
    clear h h8
    go_enter Tryd.func24, Tryd.ntmps24
    go_wp2
    go_ret2
    exact ⟨_, rfl, Kd.R_nil _ _ _ _ _, Below.refl _ _⟩
theorem decB_bad (A : Option Addr) (c0 : Nat) (len : Nat) (h1 : len % 2 = 0) (h2 : len ≤ 1200) (w : World)
    (hall : Calls Tryd.prog 37 #[.slice A len c0, .func (.func 38) #[] #[]] w fun e w' => e = .returned (.bool true) ∧ ∃ q, w' = w.drewN q) :
    Calls Tryd.prog 24 #[.slice A len c0] w fun e w' => ∃ v0_ : Value, e = .returned (.tuple #[v0_, .int .i64 (-1)]) ∧ Kd.R (Kd.int .u8) 5 w' w.heap.size (fun _ => True) v0_ [] ∧ Below w.heap.size w w' := by
  have t2 : decide ((0 : Int) < (len : Int) % 2) = false := decide_eq_false (by omega)
  have t3 : decide (1200 < (len : Int)) = false := decide_eq_false (by omega)
  clear h1
  go_enter Tryd.func24, Tryd.ntmps24
  go_wp2_with (go_at_call 37; refine hall.mono ?_; rintro e w' ⟨rfl, q, rfl⟩)
  go_ret2
  exact ⟨_, rfl, Kd.R_nil _ _ _ _ _, pw_below_drewN (Below.refl _ _) _⟩
/-- What impl.DecodeBytes answers. -/
def decB (l : List Int) : List Int × Int := if l.length % 2 = 0 ∧ l.length ≤ 1200 ∧ l.any lowB = false then ((List.range (l.length / 2)).map (decAt l), ((List.range (l.length / 2)).map (trnAt l)).sum) else ([], -1)
theorem decB_calls (A : Option Addr) (c0 : Nat) (l : List Int) (hc0 : l.length ≤ c0) (w : World) (hr0 : Kd.C (Kd.int .u8) w A l.length l) (hpos : ∀ x ∈ l, 0 ≤ x) (hG : RulesAt w)
    (hd : ∀ (x : Int) W, RulesAt W → Calls Tryd.prog 14 #[.int .i64 x] W fun e w' => e = .returned (.tuple #[.int .i64 (decN x).1, .int .i64 (decN x).2]) ∧ Below W.heap.size W w')
    (hall : Calls Tryd.prog 37 #[.slice A l.length c0, .func (.func 38) #[] #[]] w fun e w' => e = .returned (.bool (l.any lowB)) ∧ ∃ q, w' = w.drewN q) :
    Calls Tryd.prog 24 #[.slice A l.length c0] w fun e w' => ∃ v0_ : Value, e = .returned (.tuple #[v0_, .int .i64 (decB l).2]) ∧ Kd.R (Kd.int .u8) 5 w' w.heap.size (fun _ => True) v0_ (decB l).1 ∧ Below w.heap.size w w' := by
  by_cases h8 : l.length % 2 = 0 ∧ l.length ≤ 1200
  · by_cases hb : l.any lowB = false
    · rw [show decB l = ((List.range (l.length / 2)).map (decAt l), ((List.range (l.length / 2)).map (trnAt l)).sum) from if_pos ⟨h8.1, h8.2, hb⟩]
      rw [hb] at hall
      exact callsIn_wide.1 (decB_yes Fence.wide 5 trivial trivial trivial trivial trivial rfl (by omega) A c0 l (l.length / 2) l.length ⟨by omega⟩ h8.2 hc0 ⟨low_at l hpos hb⟩ w ⟨hr0⟩ hG (fun _ x W hW => callsIn_wide.2 (hd x W hW)) (callsIn_wide.2 hall) (fun W => callsIn_wide.2 (chunk_maker A l.length c0 2 (by omega) W)))
    · rw [show decB l = ([], -1) from if_neg (fun h => hb h.2.2)]
      have hb' : l.any lowB = true := by simpa using hb
      rw [hb'] at hall
      exact decB_bad A c0 l.length h8.1 h8.2 w hall
  · rw [show decB l = ([], -1) from if_neg (fun h => h8 ⟨h.1, h.2.1⟩)]
    exact decB_no A c0 l.length (Kd.C_max hr0) h8 w
theorem low_fn (w : World) : FnBool Tryd.prog 38 #[] (Value.int .u8) lowB w := by
  intro W x _
  show Calls Tryd.prog 38 #[.int .u8 x] W fun e w' => e = .returned (.bool (lowB x)) ∧ ∃ q, w' = W.drewN q
  unfold lowB
  go_enter Tryd.func38, Tryd.ntmps38
  go_wp2
  go_ret
  exact ⟨rfl, 0, rfl⟩
end Go.Proofs.YtpifogfnafogaaaDoor.Base
