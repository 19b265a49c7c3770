/-
  DERIVED. GIVEN WITH THE SEED: THE CARDS: each row of YtiilmjojffjhlaaDoorRows.lean that lists a variable, with what it lists TIED to the program's text (the seventh form; the later family's looks); each row that meets fmt, with fmt's text TOLD by the authors' own Lean function (tested against real Go, not proved from fmt's source: count such statements apart). THE CARD IS WHAT COUNTS. Prove the row's statement (the work); the ties are given (YtiilmjojffjhlaaDoorTie.lean); close each card by the builder's one call (the guide's Derived/Test/ToyasCard.lean, 'card_holds'). Laid BY PROGRAM, IN A SANDBOX (cutbox-door.mjs). By AI agents, Wed Nov 11 2026. No macro, syntax, notation, axiom, sorry.
-/
import Derived.Test.YtiilmjojffjhlaaDoorRows
import GoSem.ClaimSeven
namespace Go.Proofs.YtiilmjojffjhlaaDoor
namespace Rows

/-- THE TIED CARD OF 'laws.FnExactParseCertificate'. -/
def fnExactParseCertificateCard : Claim7 := { stood := { row := fnExactParseCertificateRow, standIns := [], harness := (true, "b6e4e81fef1ba7abfd8599f5c4309f6d8de3597c82e22752d14e68d867ce3551"), looks := true }, kinds := [], alts := [], laidByText := true, laidKinds := [.data, .data, .data, .data, .sentinel, .sentinel, .pinned], laidTests := true, laidLooks := .later }
def FnExactParseCertificateCardSaid : Prop := Claim7.holds Tryd.pinned (.plain (OpenSpec.ofChange fnExactParseCertificateSpec)) fnExactParseCertificateCard

/-- THE SECOND FORM's CARD OF 'laws.FnExactParseCertificate'. -/
def fnExactParseCertificateUptoCard : Claim7 := { stood := { row := fnExactParseCertificateUptoRow, standIns := [], harness := (true, "b6e4e81fef1ba7abfd8599f5c4309f6d8de3597c82e22752d14e68d867ce3551"), looks := true }, kinds := [], alts := [], laidByText := true, laidKinds := [.data, .data, .data, .data, .sentinel, .sentinel, .pinned], laidTests := true, laidLooks := .later }
def FnExactParseCertificateUptoCardSaid : Prop := Claim7.holds Tryd.pinned (.plain (OpenSpec.upto fnExactParseCertificateSpec)) fnExactParseCertificateUptoCard
end Rows
end Go.Proofs.YtiilmjojffjhlaaDoor
