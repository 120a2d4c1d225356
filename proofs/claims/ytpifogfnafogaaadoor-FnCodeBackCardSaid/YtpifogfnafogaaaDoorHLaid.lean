/- What the condition on the package variable 'rules' gives; the witness' world; the variable read again behind the call. -/
import Derived.Test.YtpifogfnafogaaaDoorRows
import Derived.Test.YtpifogfnafogaaaDoorHNib
import Derived.ProofKit
import Derived.LaidMore
import Derived.OpenShut
import Derived.ChangeBears2
import Derived.Stop.Joined
namespace Go.Proofs.YtpifogfnafogaaaDoor.Laid
open Go.ChangeShapes Go.WideShapes Go.ChangeAt Go.RowKit Go.WideElems Go.Maps
abbrev nm : String := "loop.example/wholenet/impl.rules"
abbrev laid : List (String × DataW Unit) := [(nm, Rows.laid_loop_example_wholenet_impl_rules)]
theorem gR : Tryd.prog.globalNamed nm = some 0 := by kernel_rfl
theorem tR : (Tryd.prog.globals[0]?).map (·.type) = some 37 := by kernel_rfl
theorem laidOut : laidOutB Tryd.prog = true := by kernel_rfl

/-- The door's own heap meets the condition. -/
theorem door_met (os : Os) (args : Array Value) : laidMetH Tryd.prog laid ((World.doorLaid Tryd.prog 400 os).forCall (fun _ _ => 0) ⟨#[], args, []⟩).memory :=
  laidMetH_of_parts3 (fuel := 8) (laidMet_of_run' 8 (by kernel_rfl) (by kernel_rfl)) (by kernel_rfl) (by kernel_rfl)

theorem lits_inj {H : Type} {k : IntKind} {x0 x1 x2 : Int} {zs : List Int} (h : (lits k zs : List (DataW H)) = [.lit (.int .i64 x0), .lit (.int .i64 x1), .lit (.int .i64 x2)]) : zs = [x0, x1, x2] := by
  match zs with
  | [] => simp [lits] at h
  | [a] => simp [lits] at h
  | [a, b] => simp [lits] at h
  | [a, b, c] => simp [lits] at h; simp [h]
  | _ :: _ :: _ :: _ :: _ => simp [lits] at h

theorem elem_row {H : Type} {enc : TypeId × Value → H} {W : World} {sp : Nat → Bool} {held : Bool} {m : Nat} {v : Value} {y : DataW H × List MemPlace} {x0 x1 x2 : Int} (h : elemAt enc Tryd.prog W 0 sp held m 38 v = some y) (hy : y.1 = Base.rowD x0 x1 x2) :
    ∃ ad c, v = .slice (some ad) 3 c ∧ W.cell? (ad.add 0) = some (.int .i64 x0) ∧ W.cell? (ad.add 1) = some (.int .i64 x1) ∧ W.cell? (ad.add 2) = some (.int .i64 x2) := by
  unfold elemAt at h
  split at h
  · rename_i hf
    rcases open_ints Tryd.underlying38 Tryd.underlying3 (by kernel_rfl) h with ⟨_, hx⟩ | ⟨a, len, cap, zs, hcs, _, hl, _, hz, hx, hcell, _⟩
    · rw [hx] at hy
      cases hy
    · rw [hx] at hy
      simp only [Base.rowD, DataW.slice.injEq] at hy
      have e := lits_inj hy.1
      have hlen : len = 3 ∧ zs.getD 0 0 = x0 ∧ zs.getD 1 0 = x1 ∧ zs.getD 2 0 = x2 ∧ 3 ≤ zs.length := by
        have h3 : (zs.take len).length = 3 := by rw [e]; rfl
        have h4 : zs.drop len = [] := by
          have := congrArg List.length hy.2
          simp [lits] at this
          exact List.drop_eq_nil_of_le (by omega)
        have h5 : zs = [x0, x1, x2] := by rw [← List.take_append_drop len zs, e, h4]; rfl
        subst h5
        simp at h3 ⊢
        have h6 := hl
        split at hz <;> simp at hz <;> omega
      obtain ⟨rfl, e0, e1, e2, h3⟩ := hlen
      refine ⟨a, cap, ?_, ?_, ?_, ?_⟩
      · cases v <;> simp [Value.formed, Tryd.underlying38] at hf <;> simp [Value.cells] at hcs <;> simp_all
      · rw [hcell 0 (by omega), e0]
      · rw [hcell 1 (by omega), e1]
      · rw [hcell 2 (by omega), e2]
  · cases h

/-- What the condition gives the walks. -/
theorem of_laid {W : World} (h : laidMetH Tryd.prog laid W) : Base.RulesAt W := by
  rw [MakeChecks.laidMetH_plain _ _ _ (by kernel_rfl)] at h
  obtain ⟨ps, ⟨g0, t0, cs0, f0, p0, q0, hg0, ht0, hv0, hd0, _, _⟩, _, _⟩ := h
  obtain rfl := Option.some.inj (gR.symm.trans hg0)
  obtain rfl := Option.some.inj (tR.symm.trans ht0)
  rcases open_map Tryd.underlying37 hd0 with ⟨_, hx⟩ | ⟨bm, es, clock, m, rfl, hcs, hb, _, F, hx⟩
  · simp [Rows.laid_loop_example_wholenet_impl_rules] at hx
  simp only [Prod.mk.injEq] at hx
  have hcell : W.cell? ⟨0, 0, none⟩ = some (.map (some bm)) := by
    have := World.var?_cell hg0 hv0 0
    rw [Array.eq_one_of_toList hcs] at this
    simpa using this
  exact ⟨_, _, bm, es.size, hcell, ⟨es, clock, hb, F, Nat.le_refl _, hx.1⟩, fun v y x0 x1 x2 hv hy => elem_row hv hy⟩

theorem var?_below {P : Program} {B g : Nat} {W W' : World} {n : String} {cs : Array Value} (h : Below B W W') (hg : P.globalNamed n = some g) (hgB : g < B) (hv : W.var? P n = some cs) : W'.var? P n = some cs := by
  unfold World.var? at hv ⊢
  simp only [hg, Option.bind_some] at hv ⊢
  rw [h.block g hgB]
  exact hv

/-- The variable reads behind the call as it did. -/
theorem vars_back {H : Type} {enc : TypeId × Value → H} {W W' : World} {gs : List (DataW H)} {q : List MemPlace} (hV : DataW.TrodVars enc Tryd.prog W (fun _ => true) [nm] gs q) (hB : Below W.heap.size W W') (lt : ∀ x ∈ q, x.block < W.heap.size) :
    ∃ d, gs = [d] ∧ DataW.TrodVars enc Tryd.prog W' (fun b => decide (b < W.heap.size)) [nm] [d] q := by
  obtain ⟨g, t, cs, fuel, d, p', rfl, hg, ht, hvar, hd, rfl⟩ := trodVars_one hV
  obtain rfl := Option.some.inj (gR.symm.trans hg)
  obtain rfl := Option.some.inj (tR.symm.trans ht)
  have hc : ∃ v : Value, cs = #[v] ∧ v.cells = #[v] := by
    rcases open_map Tryd.underlying37 hd with ⟨hcs, _⟩ | ⟨bm, es, clock, m, _, hcs, _, _, _, _⟩
    · exact ⟨_, Array.eq_one_of_toList hcs, rfl⟩
    · exact ⟨_, Array.eq_one_of_toList hcs, rfl⟩
  obtain ⟨v, rfl, hvc⟩ := hc
  have h0 : 0 < W.heap.size := lt (.cell 0 0) (List.mem_append_left _ (MemPlace.mem_row.2 ⟨0, by simp, rfl⟩))
  obtain ⟨fuel', hd'⟩ := Below.trod laidOut (by kernel_rfl) (of_decide_eq_true (by kernel_rfl)) (v := v) (⟨fuel, by rw [hvc]; exact hd⟩ : DataW.Trod enc Tryd.prog W 0 (fun _ => true) true 37 v d p') hB (fun x hx => lt x (List.mem_append_right _ hx))
  exact ⟨d, rfl, trodVars_mk1 hg ht (var?_below hB hg h0 hvar) (by rw [hvc] at hd'; exact hd')⟩
end Go.Proofs.YtpifogfnafogaaaDoor.Laid
