/-
  DERIVED. GIVEN WITH THE SEED: THE CARDS: each row of YtkbmljagcondhaaGreatDoorRows.lean that lists a variable, with what it lists TIED to the program's text (the seventh form; the later family's looks); each row that meets fmt, with fmt's text TOLD by the authors' own Lean function (tested against real Go, not proved from fmt's source: count such statements apart). THE CARD IS WHAT COUNTS. Prove the row's statement (the work); the ties are given (YtkbmljagcondhaaGreatDoorTie.lean); close each card by the builder's one call (the guide's Derived/Test/ToyasCard.lean, 'card_holds'). Laid BY PROGRAM, IN A SANDBOX (cutbox-door.mjs). By AI agents, Wed Nov 11 2026. No macro, syntax, notation, axiom, sorry.
-/
import Derived.Test.YtkbmljagcondhaaGreatDoorRows
import GoSem.ClaimSeven
namespace Go.Proofs.YtkbmljagcondhaaGreatDoor
namespace Rows

/-- THE TIED CARD OF 'tithinglaw14.PageWhole'. -/
def pageWholeCard : Claim7 := { stood := { row := pageWholeRow, standIns := [], harness := (true, "1672dc489734f97e49c81b8416e1ef60c9f01c93050f358f2f4556c9f16d2457"), looks := true }, kinds := [], alts := [], laidByText := true, laidKinds := [.data, .data, .data, .data, .sentinel, .sentinel, .pinned], laidTests := true, laidLooks := .later }
def PageWholeCardSaid : Prop := Claim7.holds Tryz.pinned (.plain (OpenSpec.ofChange pageWholeSpec)) pageWholeCard

/-- THE TIED CARD OF 'tithinglaw29.WatchBack'. -/
def watchBackCard : Claim7 := { stood := { row := watchBackRow, standIns := [], harness := (true, "1672dc489734f97e49c81b8416e1ef60c9f01c93050f358f2f4556c9f16d2457"), looks := true }, kinds := [], alts := [], laidByText := true, laidKinds := [.data, .data, .data, .data, .sentinel, .sentinel, .pinned], laidTests := true, laidLooks := .later }
def WatchBackCardSaid : Prop := Claim7.holds Tryz.pinned (.plain (OpenSpec.ofChange watchBackSpec)) watchBackCard

/-- THE TIED CARD OF 'tithinglaw29.WatchAgain'. -/
def watchAgainCard : Claim7 := { stood := { row := watchAgainRow, standIns := [], harness := (true, "1672dc489734f97e49c81b8416e1ef60c9f01c93050f358f2f4556c9f16d2457"), looks := true }, kinds := [], alts := [], laidByText := true, laidKinds := [.data, .data, .data, .data, .sentinel, .sentinel, .pinned], laidTests := true, laidLooks := .later }
def WatchAgainCardSaid : Prop := Claim7.holds Tryz.pinned (.plain (OpenSpec.ofChange watchAgainSpec)) watchAgainCard

/-- THE TIED CARD OF 'tithinglaw29.WatchTrans'. -/
def watchTransCard : Claim7 := { stood := { row := watchTransRow, standIns := [], harness := (true, "1672dc489734f97e49c81b8416e1ef60c9f01c93050f358f2f4556c9f16d2457"), looks := true }, kinds := [], alts := [], laidByText := true, laidKinds := [.data, .data, .data, .data, .sentinel, .sentinel, .pinned], laidTests := true, laidLooks := .later }
def WatchTransCardSaid : Prop := Claim7.holds Tryz.pinned (.plain (OpenSpec.ofChange watchTransSpec)) watchTransCard

/-- THE SECOND FORM's CARD OF 'tithinglaw14.PageWhole'. -/
def pageWholeUptoCard : Claim7 := { stood := { row := pageWholeUptoRow, standIns := [], harness := (true, "1672dc489734f97e49c81b8416e1ef60c9f01c93050f358f2f4556c9f16d2457"), looks := true }, kinds := [], alts := [], laidByText := true, laidKinds := [.data, .data, .data, .data, .sentinel, .sentinel, .pinned], laidTests := true, laidLooks := .later }
def PageWholeUptoCardSaid : Prop := Claim7.holds Tryz.pinned (.plain (OpenSpec.upto pageWholeSpec)) pageWholeUptoCard

/-- THE SECOND FORM's CARD OF 'tithinglaw29.WatchBack'. -/
def watchBackUptoCard : Claim7 := { stood := { row := watchBackUptoRow, standIns := [], harness := (true, "1672dc489734f97e49c81b8416e1ef60c9f01c93050f358f2f4556c9f16d2457"), looks := true }, kinds := [], alts := [], laidByText := true, laidKinds := [.data, .data, .data, .data, .sentinel, .sentinel, .pinned], laidTests := true, laidLooks := .later }
def WatchBackUptoCardSaid : Prop := Claim7.holds Tryz.pinned (.plain (OpenSpec.upto watchBackSpec)) watchBackUptoCard

/-- THE SECOND FORM's CARD OF 'tithinglaw29.WatchAgain'. -/
def watchAgainUptoCard : Claim7 := { stood := { row := watchAgainUptoRow, standIns := [], harness := (true, "1672dc489734f97e49c81b8416e1ef60c9f01c93050f358f2f4556c9f16d2457"), looks := true }, kinds := [], alts := [], laidByText := true, laidKinds := [.data, .data, .data, .data, .sentinel, .sentinel, .pinned], laidTests := true, laidLooks := .later }
def WatchAgainUptoCardSaid : Prop := Claim7.holds Tryz.pinned (.plain (OpenSpec.upto watchAgainSpec)) watchAgainUptoCard

/-- THE SECOND FORM's CARD OF 'tithinglaw29.WatchTrans'. -/
def watchTransUptoCard : Claim7 := { stood := { row := watchTransUptoRow, standIns := [], harness := (true, "1672dc489734f97e49c81b8416e1ef60c9f01c93050f358f2f4556c9f16d2457"), looks := true }, kinds := [], alts := [], laidByText := true, laidKinds := [.data, .data, .data, .data, .sentinel, .sentinel, .pinned], laidTests := true, laidLooks := .later }
def WatchTransUptoCardSaid : Prop := Claim7.holds Tryz.pinned (.plain (OpenSpec.upto watchTransSpec)) watchTransUptoCard
end Rows
end Go.Proofs.YtkbmljagcondhaaGreatDoor
