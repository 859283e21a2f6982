/-
  DERIVED. GIVEN WITH THE SEED: THE CARDS: each row of YtfbcfdhhgdmgkaaGreatDoorRows.lean that lists a variable, with what it lists TIED to the program's text (the seventh form; the later family's looks); each row that meets fmt, with fmt's text TOLD by the authors' own Lean function (tested against real Go, not proved from fmt's source: count such statements apart). THE CARD IS WHAT COUNTS. Prove the row's statement (the work); the ties are given (YtfbcfdhhgdmgkaaGreatDoorTie.lean); close each card by the builder's one call (the guide's Derived/Test/ToyasCard.lean, 'card_holds'). Laid BY PROGRAM, IN A SANDBOX (cutbox-door.mjs). By AI agents, Wed Nov 11 2026. No macro, syntax, notation, axiom, sorry.
-/
import Derived.Test.YtfbcfdhhgdmgkaaGreatDoorRows
import GoSem.ClaimSeven
namespace Go.Proofs.YtfbcfdhhgdmgkaaGreatDoor
namespace Rows

/-- THE TIED CARD OF 'pandectlaw08.TermsChecks'. -/
def termsChecksCard : Claim7 := { stood := { row := termsChecksRow, standIns := [], harness := (true, "ecf069892f2c10f5a71701978d9640cfe35b1cfa8b4f1c519983e7910105db8c"), looks := true }, kinds := [], alts := [], laidByText := true, laidKinds := [.data, .data, .data, .data, .pinned], laidTests := true, laidLooks := .later }
def TermsChecksCardSaid : Prop := Claim7.holds Tryz.pinned (.plain (OpenSpec.ofChange termsChecksSpec)) termsChecksCard

/-- THE TIED CARD OF 'pandectlaw08.TermsSames'. -/
def termsSamesCard : Claim7 := { stood := { row := termsSamesRow, standIns := [], harness := (true, "ecf069892f2c10f5a71701978d9640cfe35b1cfa8b4f1c519983e7910105db8c"), looks := true }, kinds := [], alts := [], laidByText := true, laidKinds := [.data, .data, .data, .data, .pinned], laidTests := true, laidLooks := .later }
def TermsSamesCardSaid : Prop := Claim7.holds Tryz.pinned (.plain (OpenSpec.ofChange termsSamesSpec)) termsSamesCard

/-- THE TIED CARD OF 'pandectlaw08.TermsBare'. -/
def termsBareCard : Claim7 := { stood := { row := termsBareRow, standIns := [], harness := (true, "ecf069892f2c10f5a71701978d9640cfe35b1cfa8b4f1c519983e7910105db8c"), looks := true }, kinds := [], alts := [], laidByText := true, laidKinds := [.data, .data, .data, .data, .pinned], laidTests := true, laidLooks := .later }
def TermsBareCardSaid : Prop := Claim7.holds Tryz.pinned (.plain (OpenSpec.ofChange termsBareSpec)) termsBareCard

/-- THE TIED CARD OF 'pandectlaw08.TermsSame'. -/
def termsSameCard : Claim7 := { stood := { row := termsSameRow, standIns := [], harness := (true, "ecf069892f2c10f5a71701978d9640cfe35b1cfa8b4f1c519983e7910105db8c"), looks := true }, kinds := [], alts := [], laidByText := true, laidKinds := [.data, .data, .data, .data, .pinned], laidTests := true, laidLooks := .later }
def TermsSameCardSaid : Prop := Claim7.holds Tryz.pinned (.plain (OpenSpec.ofChange termsSameSpec)) termsSameCard

/-- THE TIED CARD OF 'pandectlaw08.TermsDeep'. -/
def termsDeepCard : Claim7 := { stood := { row := termsDeepRow, standIns := [], harness := (true, "ecf069892f2c10f5a71701978d9640cfe35b1cfa8b4f1c519983e7910105db8c"), looks := true }, kinds := [], alts := [], laidByText := true, laidKinds := [.data, .data, .data, .data, .pinned], laidTests := true, laidLooks := .later }
def TermsDeepCardSaid : Prop := Claim7.holds Tryz.pinned (.plain (OpenSpec.ofChange termsDeepSpec)) termsDeepCard

/-- THE SECOND FORM's CARD OF 'pandectlaw08.TermsChecks'. -/
def termsChecksUptoCard : Claim7 := { stood := { row := termsChecksUptoRow, standIns := [], harness := (true, "ecf069892f2c10f5a71701978d9640cfe35b1cfa8b4f1c519983e7910105db8c"), looks := true }, kinds := [], alts := [], laidByText := true, laidKinds := [.data, .data, .data, .data, .pinned], laidTests := true, laidLooks := .later }
def TermsChecksUptoCardSaid : Prop := Claim7.holds Tryz.pinned (.plain (OpenSpec.upto termsChecksSpec)) termsChecksUptoCard

/-- THE SECOND FORM's CARD OF 'pandectlaw08.TermsSames'. -/
def termsSamesUptoCard : Claim7 := { stood := { row := termsSamesUptoRow, standIns := [], harness := (true, "ecf069892f2c10f5a71701978d9640cfe35b1cfa8b4f1c519983e7910105db8c"), looks := true }, kinds := [], alts := [], laidByText := true, laidKinds := [.data, .data, .data, .data, .pinned], laidTests := true, laidLooks := .later }
def TermsSamesUptoCardSaid : Prop := Claim7.holds Tryz.pinned (.plain (OpenSpec.upto termsSamesSpec)) termsSamesUptoCard

/-- THE SECOND FORM's CARD OF 'pandectlaw08.TermsBare'. -/
def termsBareUptoCard : Claim7 := { stood := { row := termsBareUptoRow, standIns := [], harness := (true, "ecf069892f2c10f5a71701978d9640cfe35b1cfa8b4f1c519983e7910105db8c"), looks := true }, kinds := [], alts := [], laidByText := true, laidKinds := [.data, .data, .data, .data, .pinned], laidTests := true, laidLooks := .later }
def TermsBareUptoCardSaid : Prop := Claim7.holds Tryz.pinned (.plain (OpenSpec.upto termsBareSpec)) termsBareUptoCard

/-- THE SECOND FORM's CARD OF 'pandectlaw08.TermsSame'. -/
def termsSameUptoCard : Claim7 := { stood := { row := termsSameUptoRow, standIns := [], harness := (true, "ecf069892f2c10f5a71701978d9640cfe35b1cfa8b4f1c519983e7910105db8c"), looks := true }, kinds := [], alts := [], laidByText := true, laidKinds := [.data, .data, .data, .data, .pinned], laidTests := true, laidLooks := .later }
def TermsSameUptoCardSaid : Prop := Claim7.holds Tryz.pinned (.plain (OpenSpec.upto termsSameSpec)) termsSameUptoCard

/-- THE SECOND FORM's CARD OF 'pandectlaw08.TermsDeep'. -/
def termsDeepUptoCard : Claim7 := { stood := { row := termsDeepUptoRow, standIns := [], harness := (true, "ecf069892f2c10f5a71701978d9640cfe35b1cfa8b4f1c519983e7910105db8c"), looks := true }, kinds := [], alts := [], laidByText := true, laidKinds := [.data, .data, .data, .data, .pinned], laidTests := true, laidLooks := .later }
def TermsDeepUptoCardSaid : Prop := Claim7.holds Tryz.pinned (.plain (OpenSpec.upto termsDeepSpec)) termsDeepUptoCard
end Rows
end Go.Proofs.YtfbcfdhhgdmgkaaGreatDoor
