/-
  DERIVED. GIVEN WITH THE SEED: THE CARDS: each row of YtnfldmfamnhpcaaDoorRows.lean that lists a variable, with what it lists TIED to the program's text (the seventh form; the later family's looks); each row that meets fmt, with fmt's text TOLD by the authors' own Lean function (tested against real Go, not proved from fmt's source: count such statements apart). THE CARD IS WHAT COUNTS. Prove the row's statement (the work); the ties are given (YtnfldmfamnhpcaaDoorTie.lean); close each card by the builder's one call (the guide's Derived/Test/ToyasCard.lean, 'card_holds'). Laid BY PROGRAM, IN A SANDBOX (cutbox-door.mjs). By AI agents, Wed Nov 11 2026. No macro, syntax, notation, axiom, sorry.
-/
import Derived.Test.YtnfldmfamnhpcaaDoorRows
import GoSem.ClaimSeven
namespace Go.Proofs.YtnfldmfamnhpcaaDoor
namespace Rows

/-- THE TIED CARD OF 'laws.FnExactFormatCertificate'. -/
def fnExactFormatCertificateCard : Claim7 := { stood := { row := fnExactFormatCertificateRow, standIns := [], harness := (true, "674b19db5317ea9dfce6ebd00dd38a67429e7d8c968195b7b06956ce1a790f87"), looks := false }, kinds := [], alts := [], laidByText := true, laidKinds := [.data, .data, .data], laidTests := true, laidLooks := .later }
def FnExactFormatCertificateCardSaid : Prop := Claim7.holds Tryd.pinned (.plain (OpenSpec.ofChange fnExactFormatCertificateSpec)) fnExactFormatCertificateCard

/-- THE TIED CARD OF 'laws.FnExactFormatAutomaton'. -/
def fnExactFormatAutomatonCard : Claim7 := { stood := { row := fnExactFormatAutomatonRow, standIns := [], harness := (true, "674b19db5317ea9dfce6ebd00dd38a67429e7d8c968195b7b06956ce1a790f87"), looks := false }, kinds := [], alts := [], laidByText := true, laidKinds := [.data, .data, .data], laidTests := true, laidLooks := .later }
def FnExactFormatAutomatonCardSaid : Prop := Claim7.holds Tryd.pinned (.plain (OpenSpec.ofChange fnExactFormatAutomatonSpec)) fnExactFormatAutomatonCard

/-- THE TIED CARD OF 'laws.FnAutomatonSame'. -/
def fnAutomatonSameCard : Claim7 := { stood := { row := fnAutomatonSameRow, standIns := [], harness := (true, "674b19db5317ea9dfce6ebd00dd38a67429e7d8c968195b7b06956ce1a790f87"), looks := false }, kinds := [], alts := [], laidByText := true, laidKinds := [.data, .data, .data], laidTests := true, laidLooks := .later }
def FnAutomatonSameCardSaid : Prop := Claim7.holds Tryd.pinned (.plain (OpenSpec.ofChange fnAutomatonSameSpec)) fnAutomatonSameCard

/-- THE SECOND FORM's CARD OF 'laws.FnExactFormatCertificate'. -/
def fnExactFormatCertificateUptoCard : Claim7 := { stood := { row := fnExactFormatCertificateUptoRow, standIns := [], harness := (true, "674b19db5317ea9dfce6ebd00dd38a67429e7d8c968195b7b06956ce1a790f87"), looks := false }, kinds := [], alts := [], laidByText := true, laidKinds := [.data, .data, .data], laidTests := true, laidLooks := .later }
def FnExactFormatCertificateUptoCardSaid : Prop := Claim7.holds Tryd.pinned (.plain (OpenSpec.upto fnExactFormatCertificateSpec)) fnExactFormatCertificateUptoCard

/-- THE SECOND FORM's CARD OF 'laws.FnExactFormatAutomaton'. -/
def fnExactFormatAutomatonUptoCard : Claim7 := { stood := { row := fnExactFormatAutomatonUptoRow, standIns := [], harness := (true, "674b19db5317ea9dfce6ebd00dd38a67429e7d8c968195b7b06956ce1a790f87"), looks := false }, kinds := [], alts := [], laidByText := true, laidKinds := [.data, .data, .data], laidTests := true, laidLooks := .later }
def FnExactFormatAutomatonUptoCardSaid : Prop := Claim7.holds Tryd.pinned (.plain (OpenSpec.upto fnExactFormatAutomatonSpec)) fnExactFormatAutomatonUptoCard

/-- THE SECOND FORM's CARD OF 'laws.FnAutomatonSame'. -/
def fnAutomatonSameUptoCard : Claim7 := { stood := { row := fnAutomatonSameUptoRow, standIns := [], harness := (true, "674b19db5317ea9dfce6ebd00dd38a67429e7d8c968195b7b06956ce1a790f87"), looks := false }, kinds := [], alts := [], laidByText := true, laidKinds := [.data, .data, .data], laidTests := true, laidLooks := .later }
def FnAutomatonSameUptoCardSaid : Prop := Claim7.holds Tryd.pinned (.plain (OpenSpec.upto fnAutomatonSameSpec)) fnAutomatonSameUptoCard
end Rows
end Go.Proofs.YtnfldmfamnhpcaaDoor
