/- The draws of the nibble laws, and their tails: every value is looked at. -/
import Derived.Test.YtpifogfnafogaaaDoorPAllx5
import Derived.Test.YtpifogfnafogaaaDoorPAllx6
import Derived.Test.YtpifogfnafogaaaDoorPAllx7
import Derived.Test.YtpifogfnafogaaaDoorPAllx8
import Derived.Test.YtpifogfnafogaaaDoorNib
namespace Go.Proofs.YtpifogfnafogaaaDoor.Pure
open Go.RowKit Go.Proofs.YtpifogfnafogaaaDoor.PAll Go.Proofs.YtpifogfnafogaaaDoorW.PrintWords Go.Proofs.YtpifogfnafogaaaDoorW.PrintLast Go.Proofs.YtpifogfnafogaaaDoorW.PrintMore Go.Proofs.YtpifogfnafogaaaDoor.Base
set_option maxRecDepth 100000
theorem drawE (l : List Int) (hl : Bytes l) : ∃ m : Fin 18, Ev (fun k => spec_DrawEncodeNibble.f k l) (((m.1 : Nat) : Int) - 1) := by
  obtain ⟨s, hs, hb, ho⟩ := open_eq l
  obtain ⟨x, h0, h1, hx⟩ := pick_ev s 0 18 (hb hl) hs (by omega) (by omega)
  refine ⟨⟨x.toNat, by omega⟩, ?_⟩
  unfold spec_DrawEncodeNibble.f
  refine Ev.bindc ho (Ev.bind hx (Ev.eq (Ev.now _) ?_))
  rw [w64 (by simp only; omega) (by simp only; omega)]
  simp only
  omega
theorem nib_all : ∀ m : Fin 18, laws_FnNibble.j0 150 (((m.1 : Nat) : Int) - 1) (encN (((m.1 : Nat) : Int) - 1)) (decide (encN (((m.1 : Nat) : Int) - 1) < 0)) = some true := by decide +kernel
theorem drawD (l : List Int) (hl : Bytes l) : ∃ m : Fin 131, Ev (fun k => spec_DrawDecodeNibble.f k l) (((m.1 : Nat) : Int) - 1) := by
  obtain ⟨s, hs, hb, ho⟩ := open_eq l
  obtain ⟨x, h0, h1, hx⟩ := pick_ev s 0 131 (hb hl) hs (by omega) (by omega)
  refine ⟨⟨x.toNat, by omega⟩, ?_⟩
  unfold spec_DrawDecodeNibble.f
  refine Ev.bindc ho (Ev.bind hx (Ev.eq (Ev.now _) ?_))
  rw [w64 (by simp only; omega) (by simp only; omega)]
  simp only
  omega
theorem far_all : ∀ m : Fin 131, laws_FnNibbleFar.j0 200 (((m.1 : Nat) : Int) - 1) (decN (((m.1 : Nat) : Int) - 1)).1 (decN (((m.1 : Nat) : Int) - 1)).2 (decN (((m.1 : Nat) : Int) - 1)).1 (decN (((m.1 : Nat) : Int) - 1)).2 (decide ((decN (((m.1 : Nat) : Int) - 1)).2 < 0)) = some true := by decide +kernel
end Go.Proofs.YtpifogfnafogaaaDoor.Pure
