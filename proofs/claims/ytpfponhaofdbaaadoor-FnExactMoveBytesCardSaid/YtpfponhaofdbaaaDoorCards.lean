/-
  DERIVED. GIVEN WITH THE SEED: THE CARDS: each row of YtpfponhaofdbaaaDoorRows.lean that lists a variable, with what it lists TIED to the program's text (the seventh form; the later family's looks); each row that meets fmt, with fmt's text TOLD by the authors' own Lean function (tested against real Go, not proved from fmt's source: count such statements apart). THE CARD IS WHAT COUNTS. Prove the row's statement (the work); the ties are given (YtpfponhaofdbaaaDoorTie.lean); close each card by the builder's one call (the guide's Derived/Test/ToyasCard.lean, 'card_holds'). Laid BY PROGRAM, IN A SANDBOX (cutbox-door.mjs). By AI agents, Wed Nov 11 2026. No macro, syntax, notation, axiom, sorry.
-/
import Derived.Test.YtpfponhaofdbaaaDoorRows
import GoSem.ClaimSeven
namespace Go.Proofs.YtpfponhaofdbaaaDoor
namespace Rows

/-- THE TIED CARD OF 'laws.FnExactMoveBytes'. -/
def fnExactMoveBytesCard : Claim7 := { stood := { row := fnExactMoveBytesRow, standIns := [], harness := (true, "d89f321460bd4110ecfd05a34289ba0b3536bc1004f6027857a5b90a4ebbbc2f"), looks := false }, kinds := [], alts := [], laidByText := true, laidKinds := [.data, .data, .data], laidTests := true, laidLooks := .later }
def FnExactMoveBytesCardSaid : Prop := Claim7.holds Tryd.pinned (.plain (OpenSpec.ofChange fnExactMoveBytesSpec)) fnExactMoveBytesCard

/-- THE TIED CARD OF 'laws.FnExactWordsOf'. -/
def fnExactWordsOfCard : Claim7 := { stood := { row := fnExactWordsOfRow, standIns := [], harness := (true, "d89f321460bd4110ecfd05a34289ba0b3536bc1004f6027857a5b90a4ebbbc2f"), looks := false }, kinds := [], alts := [], laidByText := true, laidKinds := [.data, .pinned], laidTests := true, laidLooks := .later }
def FnExactWordsOfCardSaid : Prop := Claim7.holds Tryd.pinned (.plain (OpenSpec.ofChange fnExactWordsOfSpec)) fnExactWordsOfCard

/-- THE TIED CARD OF 'laws.FnExactStateText'. -/
def fnExactStateTextCard : Claim7 := { stood := { row := fnExactStateTextRow, standIns := [], harness := (true, "d89f321460bd4110ecfd05a34289ba0b3536bc1004f6027857a5b90a4ebbbc2f"), looks := false }, kinds := [], alts := [], laidByText := true, laidKinds := [.data, .data, .data], laidTests := true, laidLooks := .later }
def FnExactStateTextCardSaid : Prop := Claim7.holds Tryd.pinned (.plain (OpenSpec.ofChange fnExactStateTextSpec)) fnExactStateTextCard

/-- THE TIED CARD OF 'laws.FnExactEncodeCmd'. -/
def fnExactEncodeCmdCard : Claim7 := { stood := { row := fnExactEncodeCmdRow, standIns := [], harness := (true, "d89f321460bd4110ecfd05a34289ba0b3536bc1004f6027857a5b90a4ebbbc2f"), looks := false }, kinds := [], alts := [], laidByText := true, laidKinds := [.data, .data, .data], laidTests := true, laidLooks := .later }
def FnExactEncodeCmdCardSaid : Prop := Claim7.holds Tryd.pinned (.plain (OpenSpec.ofChange fnExactEncodeCmdSpec)) fnExactEncodeCmdCard

/-- THE TIED CARD OF 'laws.FnExactEncodeAll'. -/
def fnExactEncodeAllCard : Claim7 := { stood := { row := fnExactEncodeAllRow, standIns := [], harness := (true, "d89f321460bd4110ecfd05a34289ba0b3536bc1004f6027857a5b90a4ebbbc2f"), looks := false }, kinds := [], alts := [], laidByText := true, laidKinds := [.data, .data, .data], laidTests := true, laidLooks := .later }
def FnExactEncodeAllCardSaid : Prop := Claim7.holds Tryd.pinned (.plain (OpenSpec.ofChange fnExactEncodeAllSpec)) fnExactEncodeAllCard

/-- THE TIED CARD OF 'laws.FnExactEmitDiff'. -/
def fnExactEmitDiffCard : Claim7 := { stood := { row := fnExactEmitDiffRow, standIns := [], harness := (true, "d89f321460bd4110ecfd05a34289ba0b3536bc1004f6027857a5b90a4ebbbc2f"), looks := false }, kinds := [], alts := [], laidByText := true, laidKinds := [.data, .data, .data], laidTests := true, laidLooks := .later }
def FnExactEmitDiffCardSaid : Prop := Claim7.holds Tryd.pinned (.plain (OpenSpec.ofChange fnExactEmitDiffSpec)) fnExactEmitDiffCard

/-- THE TIED CARD OF 'laws.FnExactEmitAll'. -/
def fnExactEmitAllCard : Claim7 := { stood := { row := fnExactEmitAllRow, standIns := [], harness := (true, "d89f321460bd4110ecfd05a34289ba0b3536bc1004f6027857a5b90a4ebbbc2f"), looks := false }, kinds := [], alts := [], laidByText := true, laidKinds := [.data, .data, .data], laidTests := true, laidLooks := .later }
def FnExactEmitAllCardSaid : Prop := Claim7.holds Tryd.pinned (.plain (OpenSpec.ofChange fnExactEmitAllSpec)) fnExactEmitAllCard

/-- THE TIED CARD OF 'laws.FnEmits'. -/
def fnEmitsCard : Claim7 := { stood := { row := fnEmitsRow, standIns := [], harness := (true, "d89f321460bd4110ecfd05a34289ba0b3536bc1004f6027857a5b90a4ebbbc2f"), looks := false }, kinds := [], alts := [], laidByText := true, laidKinds := [.data, .data, .data], laidTests := true, laidLooks := .later }
def FnEmitsCardSaid : Prop := Claim7.holds Tryd.pinned (.plain (OpenSpec.ofChange fnEmitsSpec)) fnEmitsCard

/-- THE TIED CARD OF 'laws.FnKeys'. -/
def fnKeysCard : Claim7 := { stood := { row := fnKeysRow, standIns := [], harness := (true, "d89f321460bd4110ecfd05a34289ba0b3536bc1004f6027857a5b90a4ebbbc2f"), looks := false }, kinds := [], alts := [], laidByText := true, laidKinds := [.data, .data, .data], laidTests := true, laidLooks := .later }
def FnKeysCardSaid : Prop := Claim7.holds Tryd.pinned (.plain (OpenSpec.ofChange fnKeysSpec)) fnKeysCard

/-- THE SECOND FORM's CARD OF 'laws.FnExactMoveBytes'. -/
def fnExactMoveBytesUptoCard : Claim7 := { stood := { row := fnExactMoveBytesUptoRow, standIns := [], harness := (true, "d89f321460bd4110ecfd05a34289ba0b3536bc1004f6027857a5b90a4ebbbc2f"), looks := false }, kinds := [], alts := [], laidByText := true, laidKinds := [.data, .data, .data], laidTests := true, laidLooks := .later }
def FnExactMoveBytesUptoCardSaid : Prop := Claim7.holds Tryd.pinned (.plain (OpenSpec.upto fnExactMoveBytesSpec)) fnExactMoveBytesUptoCard

/-- THE SECOND FORM's CARD OF 'laws.FnExactWordsOf'. -/
def fnExactWordsOfUptoCard : Claim7 := { stood := { row := fnExactWordsOfUptoRow, standIns := [], harness := (true, "d89f321460bd4110ecfd05a34289ba0b3536bc1004f6027857a5b90a4ebbbc2f"), looks := false }, kinds := [], alts := [], laidByText := true, laidKinds := [.data, .pinned], laidTests := true, laidLooks := .later }
def FnExactWordsOfUptoCardSaid : Prop := Claim7.holds Tryd.pinned (.plain (OpenSpec.upto fnExactWordsOfSpec)) fnExactWordsOfUptoCard

/-- THE SECOND FORM's CARD OF 'laws.FnExactStateText'. -/
def fnExactStateTextUptoCard : Claim7 := { stood := { row := fnExactStateTextUptoRow, standIns := [], harness := (true, "d89f321460bd4110ecfd05a34289ba0b3536bc1004f6027857a5b90a4ebbbc2f"), looks := false }, kinds := [], alts := [], laidByText := true, laidKinds := [.data, .data, .data], laidTests := true, laidLooks := .later }
def FnExactStateTextUptoCardSaid : Prop := Claim7.holds Tryd.pinned (.plain (OpenSpec.upto fnExactStateTextSpec)) fnExactStateTextUptoCard

/-- THE SECOND FORM's CARD OF 'laws.FnExactEncodeCmd'. -/
def fnExactEncodeCmdUptoCard : Claim7 := { stood := { row := fnExactEncodeCmdUptoRow, standIns := [], harness := (true, "d89f321460bd4110ecfd05a34289ba0b3536bc1004f6027857a5b90a4ebbbc2f"), looks := false }, kinds := [], alts := [], laidByText := true, laidKinds := [.data, .data, .data], laidTests := true, laidLooks := .later }
def FnExactEncodeCmdUptoCardSaid : Prop := Claim7.holds Tryd.pinned (.plain (OpenSpec.upto fnExactEncodeCmdSpec)) fnExactEncodeCmdUptoCard

/-- THE SECOND FORM's CARD OF 'laws.FnExactEncodeAll'. -/
def fnExactEncodeAllUptoCard : Claim7 := { stood := { row := fnExactEncodeAllUptoRow, standIns := [], harness := (true, "d89f321460bd4110ecfd05a34289ba0b3536bc1004f6027857a5b90a4ebbbc2f"), looks := false }, kinds := [], alts := [], laidByText := true, laidKinds := [.data, .data, .data], laidTests := true, laidLooks := .later }
def FnExactEncodeAllUptoCardSaid : Prop := Claim7.holds Tryd.pinned (.plain (OpenSpec.upto fnExactEncodeAllSpec)) fnExactEncodeAllUptoCard

/-- THE SECOND FORM's CARD OF 'laws.FnExactEmitDiff'. -/
def fnExactEmitDiffUptoCard : Claim7 := { stood := { row := fnExactEmitDiffUptoRow, standIns := [], harness := (true, "d89f321460bd4110ecfd05a34289ba0b3536bc1004f6027857a5b90a4ebbbc2f"), looks := false }, kinds := [], alts := [], laidByText := true, laidKinds := [.data, .data, .data], laidTests := true, laidLooks := .later }
def FnExactEmitDiffUptoCardSaid : Prop := Claim7.holds Tryd.pinned (.plain (OpenSpec.upto fnExactEmitDiffSpec)) fnExactEmitDiffUptoCard

/-- THE SECOND FORM's CARD OF 'laws.FnExactEmitAll'. -/
def fnExactEmitAllUptoCard : Claim7 := { stood := { row := fnExactEmitAllUptoRow, standIns := [], harness := (true, "d89f321460bd4110ecfd05a34289ba0b3536bc1004f6027857a5b90a4ebbbc2f"), looks := false }, kinds := [], alts := [], laidByText := true, laidKinds := [.data, .data, .data], laidTests := true, laidLooks := .later }
def FnExactEmitAllUptoCardSaid : Prop := Claim7.holds Tryd.pinned (.plain (OpenSpec.upto fnExactEmitAllSpec)) fnExactEmitAllUptoCard

/-- THE SECOND FORM's CARD OF 'laws.FnEmits'. -/
def fnEmitsUptoCard : Claim7 := { stood := { row := fnEmitsUptoRow, standIns := [], harness := (true, "d89f321460bd4110ecfd05a34289ba0b3536bc1004f6027857a5b90a4ebbbc2f"), looks := false }, kinds := [], alts := [], laidByText := true, laidKinds := [.data, .data, .data], laidTests := true, laidLooks := .later }
def FnEmitsUptoCardSaid : Prop := Claim7.holds Tryd.pinned (.plain (OpenSpec.upto fnEmitsSpec)) fnEmitsUptoCard

/-- THE SECOND FORM's CARD OF 'laws.FnKeys'. -/
def fnKeysUptoCard : Claim7 := { stood := { row := fnKeysUptoRow, standIns := [], harness := (true, "d89f321460bd4110ecfd05a34289ba0b3536bc1004f6027857a5b90a4ebbbc2f"), looks := false }, kinds := [], alts := [], laidByText := true, laidKinds := [.data, .data, .data], laidTests := true, laidLooks := .later }
def FnKeysUptoCardSaid : Prop := Claim7.holds Tryd.pinned (.plain (OpenSpec.upto fnKeysSpec)) fnKeysUptoCard
end Rows
end Go.Proofs.YtpfponhaofdbaaaDoor
