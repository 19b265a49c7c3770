/-
  DERIVED. GIVEN WITH THE SEED: THE CARDS: each row of YtiilmjojffjhlaaGreatDoorRows.lean that lists a variable, with what it lists TIED to the program's text (the seventh form; the later family's looks); each row that meets fmt, with fmt's text TOLD by the authors' own Lean function (tested against real Go, not proved from fmt's source: count such statements apart). THE CARD IS WHAT COUNTS. Prove the row's statement (the work); the ties are given (YtiilmjojffjhlaaGreatDoorTie.lean); close each card by the builder's one call (the guide's Derived/Test/ToyasCard.lean, 'card_holds'). Laid BY PROGRAM, IN A SANDBOX (cutbox-door.mjs). By AI agents, Wed Nov 11 2026. No macro, syntax, notation, axiom, sorry.
-/
import Derived.Test.YtiilmjojffjhlaaGreatDoorRows
import GoSem.ClaimSeven
namespace Go.Proofs.YtiilmjojffjhlaaGreatDoor
namespace Rows

/-- THE TIED CARD OF 'laws.FnExactParseAutomaton'. -/
def fnExactParseAutomatonCard : Claim7 := { stood := { row := fnExactParseAutomatonRow, standIns := [], harness := (true, "11bb066c332ecd56f41ef7184cb5d56769868fc9f29302b00efef690ccaa590b"), looks := true }, kinds := [], alts := [], laidByText := true, laidKinds := [.data, .data, .data, .data, .sentinel, .sentinel, .pinned], laidTests := true, laidLooks := .later }
def FnExactParseAutomatonCardSaid : Prop := Claim7.holds Tryz.pinned (.plain (OpenSpec.ofChange fnExactParseAutomatonSpec)) fnExactParseAutomatonCard

/-- THE TIED CARD OF 'laws.FnCertificateText'. -/
def fnCertificateTextCard : Claim7 := { stood := { row := fnCertificateTextRow, standIns := [], harness := (true, "11bb066c332ecd56f41ef7184cb5d56769868fc9f29302b00efef690ccaa590b"), looks := true }, kinds := [], alts := [], laidByText := true, laidKinds := [.data, .data, .data, .data, .sentinel, .sentinel, .pinned], laidTests := true, laidLooks := .later }
def FnCertificateTextCardSaid : Prop := Claim7.holds Tryz.pinned (.plain (OpenSpec.ofChange fnCertificateTextSpec)) fnCertificateTextCard

/-- THE TIED CARD OF 'laws.FnAutomatonText'. -/
def fnAutomatonTextCard : Claim7 := { stood := { row := fnAutomatonTextRow, standIns := [], harness := (true, "11bb066c332ecd56f41ef7184cb5d56769868fc9f29302b00efef690ccaa590b"), looks := true }, kinds := [], alts := [], laidByText := true, laidKinds := [.data, .data, .data, .data, .sentinel, .sentinel, .pinned], laidTests := true, laidLooks := .later }
def FnAutomatonTextCardSaid : Prop := Claim7.holds Tryz.pinned (.plain (OpenSpec.ofChange fnAutomatonTextSpec)) fnAutomatonTextCard

/-- THE SECOND FORM's CARD OF 'laws.FnExactParseAutomaton'. -/
def fnExactParseAutomatonUptoCard : Claim7 := { stood := { row := fnExactParseAutomatonUptoRow, standIns := [], harness := (true, "11bb066c332ecd56f41ef7184cb5d56769868fc9f29302b00efef690ccaa590b"), looks := true }, kinds := [], alts := [], laidByText := true, laidKinds := [.data, .data, .data, .data, .sentinel, .sentinel, .pinned], laidTests := true, laidLooks := .later }
def FnExactParseAutomatonUptoCardSaid : Prop := Claim7.holds Tryz.pinned (.plain (OpenSpec.upto fnExactParseAutomatonSpec)) fnExactParseAutomatonUptoCard

/-- THE SECOND FORM's CARD OF 'laws.FnCertificateText'. -/
def fnCertificateTextUptoCard : Claim7 := { stood := { row := fnCertificateTextUptoRow, standIns := [], harness := (true, "11bb066c332ecd56f41ef7184cb5d56769868fc9f29302b00efef690ccaa590b"), looks := true }, kinds := [], alts := [], laidByText := true, laidKinds := [.data, .data, .data, .data, .sentinel, .sentinel, .pinned], laidTests := true, laidLooks := .later }
def FnCertificateTextUptoCardSaid : Prop := Claim7.holds Tryz.pinned (.plain (OpenSpec.upto fnCertificateTextSpec)) fnCertificateTextUptoCard

/-- THE SECOND FORM's CARD OF 'laws.FnAutomatonText'. -/
def fnAutomatonTextUptoCard : Claim7 := { stood := { row := fnAutomatonTextUptoRow, standIns := [], harness := (true, "11bb066c332ecd56f41ef7184cb5d56769868fc9f29302b00efef690ccaa590b"), looks := true }, kinds := [], alts := [], laidByText := true, laidKinds := [.data, .data, .data, .data, .sentinel, .sentinel, .pinned], laidTests := true, laidLooks := .later }
def FnAutomatonTextUptoCardSaid : Prop := Claim7.holds Tryz.pinned (.plain (OpenSpec.upto fnAutomatonTextSpec)) fnAutomatonTextUptoCard
end Rows
end Go.Proofs.YtiilmjojffjhlaaGreatDoor
