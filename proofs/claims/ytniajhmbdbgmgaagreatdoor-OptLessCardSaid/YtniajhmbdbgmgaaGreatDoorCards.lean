/-
  DERIVED. GIVEN WITH THE SEED: THE CARDS: each row of YtniajhmbdbgmgaaGreatDoorRows.lean that lists a variable, with what it lists TIED to the program's text (the seventh form; the later family's looks); each row that meets fmt, with fmt's text TOLD by the authors' own Lean function (tested against real Go, not proved from fmt's source: count such statements apart). THE CARD IS WHAT COUNTS. Prove the row's statement (the work); the ties are given (YtniajhmbdbgmgaaGreatDoorTie.lean); close each card by the builder's one call (the guide's Derived/Test/ToyasCard.lean, 'card_holds'). Laid BY PROGRAM, IN A SANDBOX (cutbox-door.mjs). By AI agents, Wed Nov 11 2026. No macro, syntax, notation, axiom, sorry.
-/
import Derived.Test.YtniajhmbdbgmgaaGreatDoorRows
import GoSem.ClaimSeven
namespace Go.Proofs.YtniajhmbdbgmgaaGreatDoor
namespace Rows

/-- THE TIED CARD OF 'usancelaw16.OptLess'. -/
def optLessCard : Claim7 := { stood := { row := optLessRow, standIns := [], harness := (true, "0948cd44d1de5ca7551e7d51cb6157d57c9d864a082b88c1174cc1467b119337"), looks := true }, kinds := [], alts := [], laidByText := true, laidKinds := [.data, .pinned], laidTests := true, laidLooks := .later }
def OptLessCardSaid : Prop := Claim7.holds Tryz.pinned (.plain (OpenSpec.ofChange optLessSpec)) optLessCard

/-- THE TIED CARD OF 'usancelaw15.DenoteEnds'. -/
def denoteEndsCard : Claim7 := { stood := { row := denoteEndsRow, standIns := [], harness := (true, "0948cd44d1de5ca7551e7d51cb6157d57c9d864a082b88c1174cc1467b119337"), looks := true }, kinds := [], alts := [], laidByText := true, laidKinds := [.data, .pinned], laidTests := true, laidLooks := .later }
def DenoteEndsCardSaid : Prop := Claim7.holds Tryz.pinned (.plain (OpenSpec.ofChange denoteEndsSpec)) denoteEndsCard

/-- THE TIED CARD OF 'usancelaw17.GenForms'. -/
def genFormsCard : Claim7 := { stood := { row := genFormsRow, standIns := [], harness := (true, "0948cd44d1de5ca7551e7d51cb6157d57c9d864a082b88c1174cc1467b119337"), looks := true }, kinds := [], alts := [], laidByText := true, laidKinds := [.data, .pinned], laidTests := true, laidLooks := .later }
def GenFormsCardSaid : Prop := Claim7.holds Tryz.pinned (.plain (OpenSpec.ofChange genFormsSpec)) genFormsCard

/-- THE TIED CARD OF 'usancelaw17.GenRights'. -/
def genRightsCard : Claim7 := { stood := { row := genRightsRow, standIns := [], harness := (true, "0948cd44d1de5ca7551e7d51cb6157d57c9d864a082b88c1174cc1467b119337"), looks := true }, kinds := [], alts := [], laidByText := true, laidKinds := [.data, .pinned], laidTests := true, laidLooks := .later }
def GenRightsCardSaid : Prop := Claim7.holds Tryz.pinned (.plain (OpenSpec.ofChange genRightsSpec)) genRightsCard

/-- THE TIED CARD OF 'usancelaw17.GenBytes'. -/
def genBytesCard : Claim7 := { stood := { row := genBytesRow, standIns := [], harness := (true, "0948cd44d1de5ca7551e7d51cb6157d57c9d864a082b88c1174cc1467b119337"), looks := true }, kinds := [], alts := [], laidByText := true, laidKinds := [.data, .pinned], laidTests := true, laidLooks := .later }
def GenBytesCardSaid : Prop := Claim7.holds Tryz.pinned (.plain (OpenSpec.ofChange genBytesSpec)) genBytesCard

/-- THE TIED CARD OF 'usancelaw17.GenBack'. -/
def genBackCard : Claim7 := { stood := { row := genBackRow, standIns := [], harness := (true, "0948cd44d1de5ca7551e7d51cb6157d57c9d864a082b88c1174cc1467b119337"), looks := true }, kinds := [], alts := [], laidByText := true, laidKinds := [.data, .pinned], laidTests := true, laidLooks := .later }
def GenBackCardSaid : Prop := Claim7.holds Tryz.pinned (.plain (OpenSpec.ofChange genBackSpec)) genBackCard

/-- THE TIED CARD OF 'usancelaw18.VmPasses'. -/
def vmPassesCard : Claim7 := { stood := { row := vmPassesRow, standIns := [], harness := (true, "0948cd44d1de5ca7551e7d51cb6157d57c9d864a082b88c1174cc1467b119337"), looks := true }, kinds := [], alts := [], laidByText := true, laidKinds := [.data, .pinned], laidTests := true, laidLooks := .later }
def VmPassesCardSaid : Prop := Claim7.holds Tryz.pinned (.plain (OpenSpec.ofChange vmPassesSpec)) vmPassesCard

/-- THE SECOND FORM's CARD OF 'usancelaw16.OptLess'. -/
def optLessUptoCard : Claim7 := { stood := { row := optLessUptoRow, standIns := [], harness := (true, "0948cd44d1de5ca7551e7d51cb6157d57c9d864a082b88c1174cc1467b119337"), looks := true }, kinds := [], alts := [], laidByText := true, laidKinds := [.data, .pinned], laidTests := true, laidLooks := .later }
def OptLessUptoCardSaid : Prop := Claim7.holds Tryz.pinned (.plain (OpenSpec.upto optLessSpec)) optLessUptoCard

/-- THE SECOND FORM's CARD OF 'usancelaw15.DenoteEnds'. -/
def denoteEndsUptoCard : Claim7 := { stood := { row := denoteEndsUptoRow, standIns := [], harness := (true, "0948cd44d1de5ca7551e7d51cb6157d57c9d864a082b88c1174cc1467b119337"), looks := true }, kinds := [], alts := [], laidByText := true, laidKinds := [.data, .pinned], laidTests := true, laidLooks := .later }
def DenoteEndsUptoCardSaid : Prop := Claim7.holds Tryz.pinned (.plain (OpenSpec.upto denoteEndsSpec)) denoteEndsUptoCard

/-- THE SECOND FORM's CARD OF 'usancelaw17.GenForms'. -/
def genFormsUptoCard : Claim7 := { stood := { row := genFormsUptoRow, standIns := [], harness := (true, "0948cd44d1de5ca7551e7d51cb6157d57c9d864a082b88c1174cc1467b119337"), looks := true }, kinds := [], alts := [], laidByText := true, laidKinds := [.data, .pinned], laidTests := true, laidLooks := .later }
def GenFormsUptoCardSaid : Prop := Claim7.holds Tryz.pinned (.plain (OpenSpec.upto genFormsSpec)) genFormsUptoCard

/-- THE SECOND FORM's CARD OF 'usancelaw17.GenRights'. -/
def genRightsUptoCard : Claim7 := { stood := { row := genRightsUptoRow, standIns := [], harness := (true, "0948cd44d1de5ca7551e7d51cb6157d57c9d864a082b88c1174cc1467b119337"), looks := true }, kinds := [], alts := [], laidByText := true, laidKinds := [.data, .pinned], laidTests := true, laidLooks := .later }
def GenRightsUptoCardSaid : Prop := Claim7.holds Tryz.pinned (.plain (OpenSpec.upto genRightsSpec)) genRightsUptoCard

/-- THE SECOND FORM's CARD OF 'usancelaw17.GenBytes'. -/
def genBytesUptoCard : Claim7 := { stood := { row := genBytesUptoRow, standIns := [], harness := (true, "0948cd44d1de5ca7551e7d51cb6157d57c9d864a082b88c1174cc1467b119337"), looks := true }, kinds := [], alts := [], laidByText := true, laidKinds := [.data, .pinned], laidTests := true, laidLooks := .later }
def GenBytesUptoCardSaid : Prop := Claim7.holds Tryz.pinned (.plain (OpenSpec.upto genBytesSpec)) genBytesUptoCard

/-- THE SECOND FORM's CARD OF 'usancelaw17.GenBack'. -/
def genBackUptoCard : Claim7 := { stood := { row := genBackUptoRow, standIns := [], harness := (true, "0948cd44d1de5ca7551e7d51cb6157d57c9d864a082b88c1174cc1467b119337"), looks := true }, kinds := [], alts := [], laidByText := true, laidKinds := [.data, .pinned], laidTests := true, laidLooks := .later }
def GenBackUptoCardSaid : Prop := Claim7.holds Tryz.pinned (.plain (OpenSpec.upto genBackSpec)) genBackUptoCard

/-- THE SECOND FORM's CARD OF 'usancelaw18.VmPasses'. -/
def vmPassesUptoCard : Claim7 := { stood := { row := vmPassesUptoRow, standIns := [], harness := (true, "0948cd44d1de5ca7551e7d51cb6157d57c9d864a082b88c1174cc1467b119337"), looks := true }, kinds := [], alts := [], laidByText := true, laidKinds := [.data, .pinned], laidTests := true, laidLooks := .later }
def VmPassesUptoCardSaid : Prop := Claim7.holds Tryz.pinned (.plain (OpenSpec.upto vmPassesSpec)) vmPassesUptoCard
end Rows
end Go.Proofs.YtniajhmbdbgmgaaGreatDoor
