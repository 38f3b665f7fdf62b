/-
  DERIVED. GIVEN WITH THE SEED: THE CARDS: each row of YtkgpkalclblhbaaGreatDoorRows.lean that lists a variable, with what it lists TIED to the program's text (the seventh form; the later family's looks); each row that meets fmt, with fmt's text TOLD by the authors' own Lean function (tested against real Go, not proved from fmt's source: count such statements apart). THE CARD IS WHAT COUNTS. Prove the row's statement (the work); the ties are given (YtkgpkalclblhbaaGreatDoorTie.lean); close each card by the builder's one call (the guide's Derived/Test/ToyasCard.lean, 'card_holds'). Laid BY PROGRAM, IN A SANDBOX (cutbox-door.mjs). By AI agents, Wed Nov 11 2026. No macro, syntax, notation, axiom, sorry.
-/
import Derived.Test.YtkgpkalclblhbaaGreatDoorRows
import GoSem.ClaimSeven
namespace Go.Proofs.YtkgpkalclblhbaaGreatDoor
namespace Rows

/-- THE TIED CARD OF 'laws.FnBattleLine'. -/
def fnBattleLineCard : Claim7 := { stood := { row := fnBattleLineRow, standIns := [], harness := (true, "762d1058bca91f4a5cf82fb65bddf0fd133824c809b24e903715536e72107d40"), looks := true }, kinds := [], alts := [], laidByText := true, laidKinds := [.data, .data, .data, .sentinel, .sentinel], laidTests := true, laidLooks := .later }
def FnBattleLineCardSaid : Prop := Claim7.holds Tryz.pinned (.plain (OpenSpec.ofChange fnBattleLineSpec)) fnBattleLineCard

/-- THE TIED CARD OF 'laws.FnExactBattleLine'. -/
def fnExactBattleLineCard : Claim7 := { stood := { row := fnExactBattleLineRow, standIns := [], harness := (true, "762d1058bca91f4a5cf82fb65bddf0fd133824c809b24e903715536e72107d40"), looks := true }, kinds := [], alts := [], laidByText := true, laidKinds := [.data, .data, .data, .sentinel, .sentinel], laidTests := true, laidLooks := .later }
def FnExactBattleLineCardSaid : Prop := Claim7.holds Tryz.pinned (.plain (OpenSpec.ofChange fnExactBattleLineSpec)) fnExactBattleLineCard

/-- THE TIED CARD OF 'laws.FnExactBattleSay'. -/
def fnExactBattleSayCard : Claim7 := { stood := { row := fnExactBattleSayRow, standIns := [], harness := (true, "762d1058bca91f4a5cf82fb65bddf0fd133824c809b24e903715536e72107d40"), looks := true }, kinds := [], alts := [], laidByText := true, laidKinds := [.data, .data, .data, .sentinel, .sentinel], laidTests := true, laidLooks := .later }
def FnExactBattleSayCardSaid : Prop := Claim7.holds Tryz.pinned (.plain (OpenSpec.ofChange fnExactBattleSaySpec)) fnExactBattleSayCard

/-- THE TIED CARD OF 'laws.FnBattleSay'. -/
def fnBattleSayCard : Claim7 := { stood := { row := fnBattleSayRow, standIns := [], harness := (true, "762d1058bca91f4a5cf82fb65bddf0fd133824c809b24e903715536e72107d40"), looks := true }, kinds := [], alts := [], laidByText := true, laidKinds := [.data, .data, .data, .sentinel, .sentinel], laidTests := true, laidLooks := .later }
def FnBattleSayCardSaid : Prop := Claim7.holds Tryz.pinned (.plain (OpenSpec.ofChange fnBattleSaySpec)) fnBattleSayCard

/-- THE TIED CARD OF 'laws.FnReadJournal'. -/
def fnReadJournalCard : Claim7 := { stood := { row := fnReadJournalRow, standIns := [], harness := (true, "762d1058bca91f4a5cf82fb65bddf0fd133824c809b24e903715536e72107d40"), looks := true }, kinds := [], alts := [], laidByText := true, laidKinds := [.data, .data, .data, .sentinel, .sentinel], laidTests := true, laidLooks := .later }
def FnReadJournalCardSaid : Prop := Claim7.holds Tryz.pinned (.plain (OpenSpec.ofChange fnReadJournalSpec)) fnReadJournalCard

/-- THE SECOND FORM's CARD OF 'laws.FnBattleLine'. -/
def fnBattleLineUptoCard : Claim7 := { stood := { row := fnBattleLineUptoRow, standIns := [], harness := (true, "762d1058bca91f4a5cf82fb65bddf0fd133824c809b24e903715536e72107d40"), looks := true }, kinds := [], alts := [], laidByText := true, laidKinds := [.data, .data, .data, .sentinel, .sentinel], laidTests := true, laidLooks := .later }
def FnBattleLineUptoCardSaid : Prop := Claim7.holds Tryz.pinned (.plain (OpenSpec.upto fnBattleLineSpec)) fnBattleLineUptoCard

/-- THE SECOND FORM's CARD OF 'laws.FnExactBattleLine'. -/
def fnExactBattleLineUptoCard : Claim7 := { stood := { row := fnExactBattleLineUptoRow, standIns := [], harness := (true, "762d1058bca91f4a5cf82fb65bddf0fd133824c809b24e903715536e72107d40"), looks := true }, kinds := [], alts := [], laidByText := true, laidKinds := [.data, .data, .data, .sentinel, .sentinel], laidTests := true, laidLooks := .later }
def FnExactBattleLineUptoCardSaid : Prop := Claim7.holds Tryz.pinned (.plain (OpenSpec.upto fnExactBattleLineSpec)) fnExactBattleLineUptoCard

/-- THE SECOND FORM's CARD OF 'laws.FnExactBattleSay'. -/
def fnExactBattleSayUptoCard : Claim7 := { stood := { row := fnExactBattleSayUptoRow, standIns := [], harness := (true, "762d1058bca91f4a5cf82fb65bddf0fd133824c809b24e903715536e72107d40"), looks := true }, kinds := [], alts := [], laidByText := true, laidKinds := [.data, .data, .data, .sentinel, .sentinel], laidTests := true, laidLooks := .later }
def FnExactBattleSayUptoCardSaid : Prop := Claim7.holds Tryz.pinned (.plain (OpenSpec.upto fnExactBattleSaySpec)) fnExactBattleSayUptoCard

/-- THE SECOND FORM's CARD OF 'laws.FnBattleSay'. -/
def fnBattleSayUptoCard : Claim7 := { stood := { row := fnBattleSayUptoRow, standIns := [], harness := (true, "762d1058bca91f4a5cf82fb65bddf0fd133824c809b24e903715536e72107d40"), looks := true }, kinds := [], alts := [], laidByText := true, laidKinds := [.data, .data, .data, .sentinel, .sentinel], laidTests := true, laidLooks := .later }
def FnBattleSayUptoCardSaid : Prop := Claim7.holds Tryz.pinned (.plain (OpenSpec.upto fnBattleSaySpec)) fnBattleSayUptoCard

/-- THE SECOND FORM's CARD OF 'laws.FnReadJournal'. -/
def fnReadJournalUptoCard : Claim7 := { stood := { row := fnReadJournalUptoRow, standIns := [], harness := (true, "762d1058bca91f4a5cf82fb65bddf0fd133824c809b24e903715536e72107d40"), looks := true }, kinds := [], alts := [], laidByText := true, laidKinds := [.data, .data, .data, .sentinel, .sentinel], laidTests := true, laidLooks := .later }
def FnReadJournalUptoCardSaid : Prop := Claim7.holds Tryz.pinned (.plain (OpenSpec.upto fnReadJournalSpec)) fnReadJournalUptoCard
end Rows
end Go.Proofs.YtkgpkalclblhbaaGreatDoor
