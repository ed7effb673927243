/-
  DERIVED. GIVEN WITH THE SEED: THE CARDS: each row of YtoiodfiphighgaaDoorRows.lean that lists a variable, with what it lists TIED to the program's text (the seventh form; the later family's looks); each row that meets fmt, with fmt's text TOLD by the authors' own Lean function (tested against real Go, not proved from fmt's source: count such statements apart). THE CARD IS WHAT COUNTS. Prove the row's statement (the work); the ties are given (YtoiodfiphighgaaDoorTie.lean); close each card by the builder's one call (the guide's Derived/Test/ToyasCard.lean, 'card_holds'). Laid BY PROGRAM, IN A SANDBOX (cutbox-door.mjs). By AI agents, Wed Nov 11 2026. No macro, syntax, notation, axiom, sorry.
-/
import Derived.Test.YtoiodfiphighgaaDoorRows
import GoSem.ClaimSeven
namespace Go.Proofs.YtoiodfiphighgaaDoor
namespace Rows

/-- THE TIED CARD OF 'usancelaw01.NumNear'. -/
def numNearCard : Claim7 := { stood := { row := numNearRow, standIns := [], harness := (true, "50663fffc0df82f86733eb705e4837491d9100be8a669a579ebc11bf846912de"), looks := false }, kinds := [], alts := [], laidByText := true, laidKinds := [.data, .pinned], laidTests := true, laidLooks := .later }
def NumNearCardSaid : Prop := Claim7.holds Tryd.pinned (.plain (OpenSpec.ofChange numNearSpec)) numNearCard

/-- THE TIED CARD OF 'usancelaw01.NumTurns'. -/
def numTurnsCard : Claim7 := { stood := { row := numTurnsRow, standIns := [], harness := (true, "50663fffc0df82f86733eb705e4837491d9100be8a669a579ebc11bf846912de"), looks := false }, kinds := [], alts := [], laidByText := true, laidKinds := [.data, .pinned], laidTests := true, laidLooks := .later }
def NumTurnsCardSaid : Prop := Claim7.holds Tryd.pinned (.plain (OpenSpec.ofChange numTurnsSpec)) numTurnsCard

/-- THE TIED CARD OF 'usancelaw03.DateMoves'. -/
def dateMovesCard : Claim7 := { stood := { row := dateMovesRow, standIns := [], harness := (true, "50663fffc0df82f86733eb705e4837491d9100be8a669a579ebc11bf846912de"), looks := false }, kinds := [], alts := [], laidByText := true, laidKinds := [.data, .data, .data], laidTests := true, laidLooks := .later }
def DateMovesCardSaid : Prop := Claim7.holds Tryd.pinned (.plain (OpenSpec.ofChange dateMovesSpec)) dateMovesCard

/-- THE TIED CARD OF 'usancelaw03.DateSums'. -/
def dateSumsCard : Claim7 := { stood := { row := dateSumsRow, standIns := [], harness := (true, "50663fffc0df82f86733eb705e4837491d9100be8a669a579ebc11bf846912de"), looks := false }, kinds := [], alts := [], laidByText := true, laidKinds := [.data, .data, .data], laidTests := true, laidLooks := .later }
def DateSumsCardSaid : Prop := Claim7.holds Tryd.pinned (.plain (OpenSpec.ofChange dateSumsSpec)) dateSumsCard

/-- THE SECOND FORM's CARD OF 'usancelaw01.NumNear'. -/
def numNearUptoCard : Claim7 := { stood := { row := numNearUptoRow, standIns := [], harness := (true, "50663fffc0df82f86733eb705e4837491d9100be8a669a579ebc11bf846912de"), looks := false }, kinds := [], alts := [], laidByText := true, laidKinds := [.data, .pinned], laidTests := true, laidLooks := .later }
def NumNearUptoCardSaid : Prop := Claim7.holds Tryd.pinned (.plain (OpenSpec.upto numNearSpec)) numNearUptoCard

/-- THE SECOND FORM's CARD OF 'usancelaw01.NumTurns'. -/
def numTurnsUptoCard : Claim7 := { stood := { row := numTurnsUptoRow, standIns := [], harness := (true, "50663fffc0df82f86733eb705e4837491d9100be8a669a579ebc11bf846912de"), looks := false }, kinds := [], alts := [], laidByText := true, laidKinds := [.data, .pinned], laidTests := true, laidLooks := .later }
def NumTurnsUptoCardSaid : Prop := Claim7.holds Tryd.pinned (.plain (OpenSpec.upto numTurnsSpec)) numTurnsUptoCard

/-- THE SECOND FORM's CARD OF 'usancelaw03.DateMoves'. -/
def dateMovesUptoCard : Claim7 := { stood := { row := dateMovesUptoRow, standIns := [], harness := (true, "50663fffc0df82f86733eb705e4837491d9100be8a669a579ebc11bf846912de"), looks := false }, kinds := [], alts := [], laidByText := true, laidKinds := [.data, .data, .data], laidTests := true, laidLooks := .later }
def DateMovesUptoCardSaid : Prop := Claim7.holds Tryd.pinned (.plain (OpenSpec.upto dateMovesSpec)) dateMovesUptoCard

/-- THE SECOND FORM's CARD OF 'usancelaw03.DateSums'. -/
def dateSumsUptoCard : Claim7 := { stood := { row := dateSumsUptoRow, standIns := [], harness := (true, "50663fffc0df82f86733eb705e4837491d9100be8a669a579ebc11bf846912de"), looks := false }, kinds := [], alts := [], laidByText := true, laidKinds := [.data, .data, .data], laidTests := true, laidLooks := .later }
def DateSumsUptoCardSaid : Prop := Claim7.holds Tryd.pinned (.plain (OpenSpec.upto dateSumsSpec)) dateSumsUptoCard
end Rows
end Go.Proofs.YtoiodfiphighgaaDoor
