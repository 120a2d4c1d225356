/-
  DERIVED. GIVEN WITH THE SEED: THE CARDS: each row of YtpifogfnafogaaaDoorRows.lean that lists a variable, with what it lists TIED to the program's text (the seventh form; the later family's looks); each row that meets fmt, with fmt's text TOLD by the authors' own Lean function (tested against real Go, not proved from fmt's source: count such statements apart). THE CARD IS WHAT COUNTS. Prove the row's statement (the work); the ties are given (YtpifogfnafogaaaDoorTie.lean); close each card by the builder's one call (the guide's Derived/Test/ToyasCard.lean, 'card_holds'). Laid BY PROGRAM, IN A SANDBOX (cutbox-door.mjs). By AI agents, Wed Nov 11 2026. No macro, syntax, notation, axiom, sorry.
-/
import Derived.Test.YtpifogfnafogaaaDoorRows
import GoSem.ClaimSeven
namespace Go.Proofs.YtpifogfnafogaaaDoor
namespace Rows

/-- THE TIED CARD OF 'laws.FnExactEncodeNibble'. -/
def fnExactEncodeNibbleCard : Claim7 := { stood := { row := fnExactEncodeNibbleRow, standIns := [], harness := (true, "a03dd407dd3e55235393523619dac531122b5da666fe172b4309eb377f5c26ea"), looks := false }, kinds := [], alts := [], laidByText := true, laidKinds := [.mappedDeep], laidTests := true, laidLooks := .later }
def FnExactEncodeNibbleCardSaid : Prop := Claim7.holds Tryd.pinned (.plain (OpenSpec.ofChange fnExactEncodeNibbleSpec)) fnExactEncodeNibbleCard

/-- THE TIED CARD OF 'laws.FnExactDecodeNibble'. -/
def fnExactDecodeNibbleCard : Claim7 := { stood := { row := fnExactDecodeNibbleRow, standIns := [], harness := (true, "a03dd407dd3e55235393523619dac531122b5da666fe172b4309eb377f5c26ea"), looks := false }, kinds := [], alts := [], laidByText := true, laidKinds := [.mappedDeep], laidTests := true, laidLooks := .later }
def FnExactDecodeNibbleCardSaid : Prop := Claim7.holds Tryd.pinned (.plain (OpenSpec.ofChange fnExactDecodeNibbleSpec)) fnExactDecodeNibbleCard

/-- THE TIED CARD OF 'laws.FnNibble'. -/
def fnNibbleCard : Claim7 := { stood := { row := fnNibbleRow, standIns := [], harness := (true, "a03dd407dd3e55235393523619dac531122b5da666fe172b4309eb377f5c26ea"), looks := false }, kinds := [], alts := [], laidByText := true, laidKinds := [.mappedDeep], laidTests := true, laidLooks := .later }
def FnNibbleCardSaid : Prop := Claim7.holds Tryd.pinned (.plain (OpenSpec.ofChange fnNibbleSpec)) fnNibbleCard

/-- THE TIED CARD OF 'laws.FnNibbleFar'. -/
def fnNibbleFarCard : Claim7 := { stood := { row := fnNibbleFarRow, standIns := [], harness := (true, "a03dd407dd3e55235393523619dac531122b5da666fe172b4309eb377f5c26ea"), looks := false }, kinds := [], alts := [], laidByText := true, laidKinds := [.mappedDeep], laidTests := true, laidLooks := .later }
def FnNibbleFarCardSaid : Prop := Claim7.holds Tryd.pinned (.plain (OpenSpec.ofChange fnNibbleFarSpec)) fnNibbleFarCard

/-- THE TIED CARD OF 'laws.FnExactEncodeBytes'. -/
def fnExactEncodeBytesCard : Claim7 := { stood := { row := fnExactEncodeBytesRow, standIns := [], harness := (true, "a03dd407dd3e55235393523619dac531122b5da666fe172b4309eb377f5c26ea"), looks := false }, kinds := [], alts := [], laidByText := true, laidKinds := [.mappedDeep], laidTests := true, laidLooks := .later }
def FnExactEncodeBytesCardSaid : Prop := Claim7.holds Tryd.pinned (.plain (OpenSpec.ofChange fnExactEncodeBytesSpec)) fnExactEncodeBytesCard

/-- THE TIED CARD OF 'laws.FnExactDecodeBytes'. -/
def fnExactDecodeBytesCard : Claim7 := { stood := { row := fnExactDecodeBytesRow, standIns := [], harness := (true, "a03dd407dd3e55235393523619dac531122b5da666fe172b4309eb377f5c26ea"), looks := false }, kinds := [], alts := [], laidByText := true, laidKinds := [.mappedDeep], laidTests := true, laidLooks := .later }
def FnExactDecodeBytesCardSaid : Prop := Claim7.holds Tryd.pinned (.plain (OpenSpec.ofChange fnExactDecodeBytesSpec)) fnExactDecodeBytesCard

/-- THE TIED CARD OF 'laws.FnCodeBack'. -/
def fnCodeBackCard : Claim7 := { stood := { row := fnCodeBackRow, standIns := [], harness := (true, "a03dd407dd3e55235393523619dac531122b5da666fe172b4309eb377f5c26ea"), looks := false }, kinds := [], alts := [], laidByText := true, laidKinds := [.mappedDeep], laidTests := true, laidLooks := .later }
def FnCodeBackCardSaid : Prop := Claim7.holds Tryd.pinned (.plain (OpenSpec.ofChange fnCodeBackSpec)) fnCodeBackCard

/-- THE TIED CARD OF 'laws.FnDecodeBytes'. -/
def fnDecodeBytesCard : Claim7 := { stood := { row := fnDecodeBytesRow, standIns := [], harness := (true, "a03dd407dd3e55235393523619dac531122b5da666fe172b4309eb377f5c26ea"), looks := false }, kinds := [], alts := [], laidByText := true, laidKinds := [.mappedDeep], laidTests := true, laidLooks := .later }
def FnDecodeBytesCardSaid : Prop := Claim7.holds Tryd.pinned (.plain (OpenSpec.ofChange fnDecodeBytesSpec)) fnDecodeBytesCard

/-- THE SECOND FORM's CARD OF 'laws.FnExactEncodeNibble'. -/
def fnExactEncodeNibbleUptoCard : Claim7 := { stood := { row := fnExactEncodeNibbleUptoRow, standIns := [], harness := (true, "a03dd407dd3e55235393523619dac531122b5da666fe172b4309eb377f5c26ea"), looks := false }, kinds := [], alts := [], laidByText := true, laidKinds := [.mappedDeep], laidTests := true, laidLooks := .later }
def FnExactEncodeNibbleUptoCardSaid : Prop := Claim7.holds Tryd.pinned (.plain (OpenSpec.upto fnExactEncodeNibbleSpec)) fnExactEncodeNibbleUptoCard

/-- THE SECOND FORM's CARD OF 'laws.FnExactDecodeNibble'. -/
def fnExactDecodeNibbleUptoCard : Claim7 := { stood := { row := fnExactDecodeNibbleUptoRow, standIns := [], harness := (true, "a03dd407dd3e55235393523619dac531122b5da666fe172b4309eb377f5c26ea"), looks := false }, kinds := [], alts := [], laidByText := true, laidKinds := [.mappedDeep], laidTests := true, laidLooks := .later }
def FnExactDecodeNibbleUptoCardSaid : Prop := Claim7.holds Tryd.pinned (.plain (OpenSpec.upto fnExactDecodeNibbleSpec)) fnExactDecodeNibbleUptoCard

/-- THE SECOND FORM's CARD OF 'laws.FnNibble'. -/
def fnNibbleUptoCard : Claim7 := { stood := { row := fnNibbleUptoRow, standIns := [], harness := (true, "a03dd407dd3e55235393523619dac531122b5da666fe172b4309eb377f5c26ea"), looks := false }, kinds := [], alts := [], laidByText := true, laidKinds := [.mappedDeep], laidTests := true, laidLooks := .later }
def FnNibbleUptoCardSaid : Prop := Claim7.holds Tryd.pinned (.plain (OpenSpec.upto fnNibbleSpec)) fnNibbleUptoCard

/-- THE SECOND FORM's CARD OF 'laws.FnNibbleFar'. -/
def fnNibbleFarUptoCard : Claim7 := { stood := { row := fnNibbleFarUptoRow, standIns := [], harness := (true, "a03dd407dd3e55235393523619dac531122b5da666fe172b4309eb377f5c26ea"), looks := false }, kinds := [], alts := [], laidByText := true, laidKinds := [.mappedDeep], laidTests := true, laidLooks := .later }
def FnNibbleFarUptoCardSaid : Prop := Claim7.holds Tryd.pinned (.plain (OpenSpec.upto fnNibbleFarSpec)) fnNibbleFarUptoCard

/-- THE SECOND FORM's CARD OF 'laws.FnExactEncodeBytes'. -/
def fnExactEncodeBytesUptoCard : Claim7 := { stood := { row := fnExactEncodeBytesUptoRow, standIns := [], harness := (true, "a03dd407dd3e55235393523619dac531122b5da666fe172b4309eb377f5c26ea"), looks := false }, kinds := [], alts := [], laidByText := true, laidKinds := [.mappedDeep], laidTests := true, laidLooks := .later }
def FnExactEncodeBytesUptoCardSaid : Prop := Claim7.holds Tryd.pinned (.plain (OpenSpec.upto fnExactEncodeBytesSpec)) fnExactEncodeBytesUptoCard

/-- THE SECOND FORM's CARD OF 'laws.FnExactDecodeBytes'. -/
def fnExactDecodeBytesUptoCard : Claim7 := { stood := { row := fnExactDecodeBytesUptoRow, standIns := [], harness := (true, "a03dd407dd3e55235393523619dac531122b5da666fe172b4309eb377f5c26ea"), looks := false }, kinds := [], alts := [], laidByText := true, laidKinds := [.mappedDeep], laidTests := true, laidLooks := .later }
def FnExactDecodeBytesUptoCardSaid : Prop := Claim7.holds Tryd.pinned (.plain (OpenSpec.upto fnExactDecodeBytesSpec)) fnExactDecodeBytesUptoCard

/-- THE SECOND FORM's CARD OF 'laws.FnCodeBack'. -/
def fnCodeBackUptoCard : Claim7 := { stood := { row := fnCodeBackUptoRow, standIns := [], harness := (true, "a03dd407dd3e55235393523619dac531122b5da666fe172b4309eb377f5c26ea"), looks := false }, kinds := [], alts := [], laidByText := true, laidKinds := [.mappedDeep], laidTests := true, laidLooks := .later }
def FnCodeBackUptoCardSaid : Prop := Claim7.holds Tryd.pinned (.plain (OpenSpec.upto fnCodeBackSpec)) fnCodeBackUptoCard

/-- THE SECOND FORM's CARD OF 'laws.FnDecodeBytes'. -/
def fnDecodeBytesUptoCard : Claim7 := { stood := { row := fnDecodeBytesUptoRow, standIns := [], harness := (true, "a03dd407dd3e55235393523619dac531122b5da666fe172b4309eb377f5c26ea"), looks := false }, kinds := [], alts := [], laidByText := true, laidKinds := [.mappedDeep], laidTests := true, laidLooks := .later }
def FnDecodeBytesUptoCardSaid : Prop := Claim7.holds Tryd.pinned (.plain (OpenSpec.upto fnDecodeBytesSpec)) fnDecodeBytesUptoCard
end Rows
end Go.Proofs.YtpifogfnafogaaaDoor
