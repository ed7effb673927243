/-
  NARROWER THAN 'FOR EVERY INPUT', by the rows' own cells (each row's printed sentence says how): OptTwice: loops, laid · OptFolds: loops, laid · DenoteAgain: loops, laid · DenoteLater: loops, laid · DenoteParts: loops, laid · DenoteTimes: loops, laid · VmParts: laid.
  DERIVED. THE GIVEN ROWS OF THIS SEAT. 7 by the template 'for every input the law returns true; each argument reads behind the call as it read before'; 0 by the template 'total and deterministic' (their statements: YtniajhmbdbgmgaaDoorTotals.lean).
  GIVEN WITH THE SEED: the statements are not yours to turn. If you find one false, say at which input.
  Laid BY PROGRAM, IN A SANDBOX (cutbox-rows.mjs): the forced cells as the released guide's own fill.sh prints them over the translation a239110da68fb3e9… (all of the seat's roots in one cut). By AI agents, Wed Nov 11 2026. No macro, syntax, notation, axiom, sorry.
-/
import Derived.Test.YtniajhmbdbgmgaaDoorChecked
import GoSem.PinnedTables
import GoSem.Claim
import GoSem.ClaimJoined
import GoSem.ClaimMapViews
import Derived.JoinedTies
import Derived.KernelRfl
namespace Go.Proofs.YtniajhmbdbgmgaaDoor
/- THE CELL 'sum', in the pinned program and in every row, IS THE sha256 OF THE DUMP (.gsa) THAT YtniajhmbdbgmgaaDoorProg.lean LOADS. Nothing in Lean hashes anything: it is a label: what it is worth is what the hold of that sum in a sandbox is worth. -/
noncomputable def Tryd.pinned : Pinned := { name := "ytniajhmbdbgmgaadoor", sum := "a239110da68fb3e9a4db0cd549236fc405c6e60196f830dd0c94176f65366382", checked := Tryd.checked }
namespace Rows
def none {H : Type} : Left H := { results := [], args := [] }

/- WHAT THE LISTED PACKAGE-LEVEL VARIABLES READ AS WHEN THE CALL BEGINS. Each datum BY PROGRAM (the guide's laid-datum.mjs) off the statement by which the dump's own 'gosem.cut.vars' lays the variable. In a bare row this is a premise. The card (YtniajhmbdbgmgaaDoorCards.lean) ties it to the program's text. -/
def laid_unicode_utf8_acceptRanges {H : Type} : DataW H := .agg [.agg [.lit (.int .u8 128), .lit (.int .u8 191)], .agg [.lit (.int .u8 160), .lit (.int .u8 191)], .agg [.lit (.int .u8 128), .lit (.int .u8 159)], .agg [.lit (.int .u8 144), .lit (.int .u8 191)], .agg [.lit (.int .u8 128), .lit (.int .u8 143)], .agg [.lit (.int .u8 0), .lit (.int .u8 0)], .agg [.lit (.int .u8 0), .lit (.int .u8 0)], .agg [.lit (.int .u8 0), .lit (.int .u8 0)], .agg [.lit (.int .u8 0), .lit (.int .u8 0)], .agg [.lit (.int .u8 0), .lit (.int .u8 0)], .agg [.lit (.int .u8 0), .lit (.int .u8 0)], .agg [.lit (.int .u8 0), .lit (.int .u8 0)], .agg [.lit (.int .u8 0), .lit (.int .u8 0)], .agg [.lit (.int .u8 0), .lit (.int .u8 0)], .agg [.lit (.int .u8 0), .lit (.int .u8 0)], .agg [.lit (.int .u8 0), .lit (.int .u8 0)]]
/-- One of Go's own tables, pinned by name: the form's constant. -/
def laid_unicode_utf8_first : DataW Unit := Go.Pinned.utf8First

/-- 'usancelaw16.OptTwice': WHATEVER THE INPUT: true; the input reads as it did. -/
def optTwiceSpec : ChangeSpec := { name := "optTwice", fn := fun _ => fun
  | [d1, d2] => { results := [.lit (.bool true)], args := [d1, d2] }
  | _ => none }
def optTwiceRow : OpenClaim := { program := "ytniajhmbdbgmgaadoor", sum := "a239110da68fb3e9a4db0cd549236fc405c6e60196f830dd0c94176f65366382", func := "usance/usancelaw16.OptTwice", spec := "optTwice", inPlace := ["internal/bytealg.IndexByteString", "internal/bytealg.IndexString"], unfollowed := true, recurses := true, named := ["internal/bytealg.MaxLen", "unicode/utf8.first", "unicode/utf8.acceptRanges", "math/bits.divideError", "math/bits.overflowError"], loops := true, apart := false, laid := [("unicode/utf8.acceptRanges", laid_unicode_utf8_acceptRanges), ("unicode/utf8.first", laid_unicode_utf8_first)] }
def OptTwiceSaid : Prop := optTwiceRow.holds Tryd.pinned (OpenSpec.ofChange optTwiceSpec)

/-- ITS FALSE NEIGHBOUR: 'it returns false'. Refute it at one input. -/
def optTwiceWrong : ChangeSpec := { name := "optTwice", fn := fun _ => fun
  | [d1, d2] => { results := [.lit (.bool false)], args := [d1, d2] }
  | _ => none }
def OptTwiceWrongFalsely : Prop := optTwiceRow.holds Tryd.pinned (OpenSpec.ofChange optTwiceWrong)

/-- 'usancelaw16.OptFolds': WHATEVER THE INPUT: true; the input reads as it did. -/
def optFoldsSpec : ChangeSpec := { name := "optFolds", fn := fun _ => fun
  | [d] => { results := [.lit (.bool true)], args := [d] }
  | _ => none }
def optFoldsRow : OpenClaim := { program := "ytniajhmbdbgmgaadoor", sum := "a239110da68fb3e9a4db0cd549236fc405c6e60196f830dd0c94176f65366382", func := "usance/usancelaw16.OptFolds", spec := "optFolds", inPlace := ["internal/bytealg.IndexByteString", "internal/bytealg.IndexString"], unfollowed := true, recurses := true, named := ["internal/bytealg.MaxLen", "unicode/utf8.first", "unicode/utf8.acceptRanges", "math/bits.divideError", "math/bits.overflowError"], loops := true, apart := false, laid := [("unicode/utf8.acceptRanges", laid_unicode_utf8_acceptRanges), ("unicode/utf8.first", laid_unicode_utf8_first)] }
def OptFoldsSaid : Prop := optFoldsRow.holds Tryd.pinned (OpenSpec.ofChange optFoldsSpec)

/-- ITS FALSE NEIGHBOUR: 'it returns false'. Refute it at one input. -/
def optFoldsWrong : ChangeSpec := { name := "optFolds", fn := fun _ => fun
  | [d] => { results := [.lit (.bool false)], args := [d] }
  | _ => none }
def OptFoldsWrongFalsely : Prop := optFoldsRow.holds Tryd.pinned (OpenSpec.ofChange optFoldsWrong)

/-- 'usancelaw15.DenoteAgain': WHATEVER THE INPUT: true; the input reads as it did. -/
def denoteAgainSpec : ChangeSpec := { name := "denoteAgain", fn := fun _ => fun
  | [d1, d2, d3, d4, d5, d6] => { results := [.lit (.bool true)], args := [d1, d2, d3, d4, d5, d6] }
  | _ => none }
def denoteAgainRow : OpenClaim := { program := "ytniajhmbdbgmgaadoor", sum := "a239110da68fb3e9a4db0cd549236fc405c6e60196f830dd0c94176f65366382", func := "usance/usancelaw15.DenoteAgain", spec := "denoteAgain", inPlace := ["internal/bytealg.IndexByteString", "internal/bytealg.IndexString"], unfollowed := true, recurses := true, named := ["internal/bytealg.MaxLen", "unicode/utf8.first", "unicode/utf8.acceptRanges", "math/bits.divideError", "math/bits.overflowError"], loops := true, apart := false, laid := [("unicode/utf8.acceptRanges", laid_unicode_utf8_acceptRanges), ("unicode/utf8.first", laid_unicode_utf8_first)] }
def DenoteAgainSaid : Prop := denoteAgainRow.holds Tryd.pinned (OpenSpec.ofChange denoteAgainSpec)

/-- ITS FALSE NEIGHBOUR: 'it returns false'. Refute it at one input. -/
def denoteAgainWrong : ChangeSpec := { name := "denoteAgain", fn := fun _ => fun
  | [d1, d2, d3, d4, d5, d6] => { results := [.lit (.bool false)], args := [d1, d2, d3, d4, d5, d6] }
  | _ => none }
def DenoteAgainWrongFalsely : Prop := denoteAgainRow.holds Tryd.pinned (OpenSpec.ofChange denoteAgainWrong)

/-- 'usancelaw15.DenoteLater': WHATEVER THE INPUT: true; the input reads as it did. -/
def denoteLaterSpec : ChangeSpec := { name := "denoteLater", fn := fun _ => fun
  | [d1, d2, d3, d4, d5] => { results := [.lit (.bool true)], args := [d1, d2, d3, d4, d5] }
  | _ => none }
def denoteLaterRow : OpenClaim := { program := "ytniajhmbdbgmgaadoor", sum := "a239110da68fb3e9a4db0cd549236fc405c6e60196f830dd0c94176f65366382", func := "usance/usancelaw15.DenoteLater", spec := "denoteLater", inPlace := ["internal/bytealg.IndexByteString", "internal/bytealg.IndexString"], unfollowed := true, recurses := true, named := ["internal/bytealg.MaxLen", "unicode/utf8.first", "unicode/utf8.acceptRanges", "math/bits.divideError", "math/bits.overflowError"], loops := true, apart := false, laid := [("unicode/utf8.acceptRanges", laid_unicode_utf8_acceptRanges), ("unicode/utf8.first", laid_unicode_utf8_first)] }
def DenoteLaterSaid : Prop := denoteLaterRow.holds Tryd.pinned (OpenSpec.ofChange denoteLaterSpec)

/-- ITS FALSE NEIGHBOUR: 'it returns false'. Refute it at one input. -/
def denoteLaterWrong : ChangeSpec := { name := "denoteLater", fn := fun _ => fun
  | [d1, d2, d3, d4, d5] => { results := [.lit (.bool false)], args := [d1, d2, d3, d4, d5] }
  | _ => none }
def DenoteLaterWrongFalsely : Prop := denoteLaterRow.holds Tryd.pinned (OpenSpec.ofChange denoteLaterWrong)

/-- 'usancelaw15.DenoteParts': WHATEVER THE INPUT: true; the input reads as it did. -/
def denotePartsSpec : ChangeSpec := { name := "denoteParts", fn := fun _ => fun
  | [d1, d2, d3, d4] => { results := [.lit (.bool true)], args := [d1, d2, d3, d4] }
  | _ => none }
def denotePartsRow : OpenClaim := { program := "ytniajhmbdbgmgaadoor", sum := "a239110da68fb3e9a4db0cd549236fc405c6e60196f830dd0c94176f65366382", func := "usance/usancelaw15.DenoteParts", spec := "denoteParts", inPlace := ["internal/bytealg.IndexByteString", "internal/bytealg.IndexString"], unfollowed := true, recurses := true, named := ["internal/bytealg.MaxLen", "unicode/utf8.first", "unicode/utf8.acceptRanges", "math/bits.divideError", "math/bits.overflowError"], loops := true, apart := false, laid := [("unicode/utf8.acceptRanges", laid_unicode_utf8_acceptRanges), ("unicode/utf8.first", laid_unicode_utf8_first)] }
def DenotePartsSaid : Prop := denotePartsRow.holds Tryd.pinned (OpenSpec.ofChange denotePartsSpec)

/-- ITS FALSE NEIGHBOUR: 'it returns false'. Refute it at one input. -/
def denotePartsWrong : ChangeSpec := { name := "denoteParts", fn := fun _ => fun
  | [d1, d2, d3, d4] => { results := [.lit (.bool false)], args := [d1, d2, d3, d4] }
  | _ => none }
def DenotePartsWrongFalsely : Prop := denotePartsRow.holds Tryd.pinned (OpenSpec.ofChange denotePartsWrong)

/-- 'usancelaw15.DenoteTimes': WHATEVER THE INPUT: true; the input reads as it did. -/
def denoteTimesSpec : ChangeSpec := { name := "denoteTimes", fn := fun _ => fun
  | [d1, d2, d3, d4] => { results := [.lit (.bool true)], args := [d1, d2, d3, d4] }
  | _ => none }
def denoteTimesRow : OpenClaim := { program := "ytniajhmbdbgmgaadoor", sum := "a239110da68fb3e9a4db0cd549236fc405c6e60196f830dd0c94176f65366382", func := "usance/usancelaw15.DenoteTimes", spec := "denoteTimes", inPlace := ["internal/bytealg.IndexByteString", "internal/bytealg.IndexString"], unfollowed := true, recurses := true, named := ["internal/bytealg.MaxLen", "unicode/utf8.first", "unicode/utf8.acceptRanges", "math/bits.divideError", "math/bits.overflowError"], loops := true, apart := false, laid := [("unicode/utf8.acceptRanges", laid_unicode_utf8_acceptRanges), ("unicode/utf8.first", laid_unicode_utf8_first)] }
def DenoteTimesSaid : Prop := denoteTimesRow.holds Tryd.pinned (OpenSpec.ofChange denoteTimesSpec)

/-- ITS FALSE NEIGHBOUR: 'it returns false'. Refute it at one input. -/
def denoteTimesWrong : ChangeSpec := { name := "denoteTimes", fn := fun _ => fun
  | [d1, d2, d3, d4] => { results := [.lit (.bool false)], args := [d1, d2, d3, d4] }
  | _ => none }
def DenoteTimesWrongFalsely : Prop := denoteTimesRow.holds Tryd.pinned (OpenSpec.ofChange denoteTimesWrong)

/-- 'usancelaw18.VmParts': WHATEVER THE INPUT: true; the input reads as it did. -/
def vmPartsSpec : ChangeSpec := { name := "vmParts", fn := fun _ => fun
  | [d1, d2, d3, d4, d5, d6] => { results := [.lit (.bool true)], args := [d1, d2, d3, d4, d5, d6] }
  | _ => none }
def vmPartsRow : OpenClaim := { program := "ytniajhmbdbgmgaadoor", sum := "a239110da68fb3e9a4db0cd549236fc405c6e60196f830dd0c94176f65366382", func := "usance/usancelaw18.VmParts", spec := "vmParts", inPlace := ["internal/bytealg.IndexByteString", "internal/bytealg.IndexString"], unfollowed := true, recurses := true, named := ["internal/bytealg.MaxLen", "unicode/utf8.first", "unicode/utf8.acceptRanges", "math/bits.divideError", "math/bits.overflowError"], apart := false, laid := [("unicode/utf8.acceptRanges", laid_unicode_utf8_acceptRanges), ("unicode/utf8.first", laid_unicode_utf8_first)] }
def VmPartsSaid : Prop := vmPartsRow.holds Tryd.pinned (OpenSpec.ofChange vmPartsSpec)

/-- ITS FALSE NEIGHBOUR: 'it returns false'. Refute it at one input. -/
def vmPartsWrong : ChangeSpec := { name := "vmParts", fn := fun _ => fun
  | [d1, d2, d3, d4, d5, d6] => { results := [.lit (.bool false)], args := [d1, d2, d3, d4, d5, d6] }
  | _ => none }
def VmPartsWrongFalsely : Prop := vmPartsRow.holds Tryd.pinned (OpenSpec.ofChange vmPartsWrong)

/- THE SECOND FORM. 'bulk': how many values and letters a reading holds, each counted each time it is reached (what is shared counts as often as it is met; a slice's spare places count too). A statement '..UptoSaid' is the law's where the arguments, and the package variables that the reading takes, are together of bulk at most 1048576: NARROWER than '..Said'. Prove '..Said' where nothing that the law and all that it calls make is longer than what came in: it says more and counts as full. Else prove '..UptoSaid'. A law counts once. -/
mutual
def uptoBulk {H : Type} : DataW H → Nat
  | .lit (.string bytes) => bytes.length + 1
  | .lit _ => 1
  | .nil => 1
  | .ptr d => uptoBulk d + 1
  | .slice elems spare => uptoBulkAll elems + uptoBulkAll spare + 1
  | .agg parts => uptoBulkAll parts + 1
  | .iface _ d => uptoBulk d + 1
  | .map entries => uptoBulkEntries entries + 1
  | .held _ => 1
def uptoBulkAll {H : Type} : List (DataW H) → Nat
  | [] => 0
  | d :: r => uptoBulk d + uptoBulkAll r
def uptoBulkEntries {H : Type} : List (Lit × DataW H) → Nat
  | [] => 0
  | x :: r => uptoBulkEntry x + uptoBulkEntries r
def uptoBulkEntry {H : Type} : Lit × DataW H → Nat
  | (.string bytes, d) => bytes.length + uptoBulk d + 1
  | (_, d) => uptoBulk d + 1
 end
def uptoSmall : (H : Type) → List (DataW H) → Bool := fun _ ds => decide (uptoBulkAll ds ≤ 1048576)
def OpenSpec.upto (s : _root_.Go.ChangeSpec) : _root_.Go.OpenSpec := { _root_.Go.OpenSpec.ofChange s with cond := some uptoSmall }

/-- 'usancelaw16.OptTwice', WHERE WHAT IT READS IS OF BULK AT MOST 1048576: true; the input reads as it did. -/
def optTwiceUptoRow : OpenClaim := { program := "ytniajhmbdbgmgaadoor", sum := "a239110da68fb3e9a4db0cd549236fc405c6e60196f830dd0c94176f65366382", func := "usance/usancelaw16.OptTwice", spec := "optTwice", inPlace := ["internal/bytealg.IndexByteString", "internal/bytealg.IndexString"], unfollowed := true, recurses := true, named := ["internal/bytealg.MaxLen", "unicode/utf8.first", "unicode/utf8.acceptRanges", "math/bits.divideError", "math/bits.overflowError"], loops := true, apart := false, laid := [("unicode/utf8.acceptRanges", laid_unicode_utf8_acceptRanges), ("unicode/utf8.first", laid_unicode_utf8_first)], narrowed := true }
def OptTwiceUptoSaid : Prop := optTwiceUptoRow.holds Tryd.pinned (OpenSpec.upto optTwiceSpec)

/-- 'usancelaw16.OptFolds', WHERE WHAT IT READS IS OF BULK AT MOST 1048576: true; the input reads as it did. -/
def optFoldsUptoRow : OpenClaim := { program := "ytniajhmbdbgmgaadoor", sum := "a239110da68fb3e9a4db0cd549236fc405c6e60196f830dd0c94176f65366382", func := "usance/usancelaw16.OptFolds", spec := "optFolds", inPlace := ["internal/bytealg.IndexByteString", "internal/bytealg.IndexString"], unfollowed := true, recurses := true, named := ["internal/bytealg.MaxLen", "unicode/utf8.first", "unicode/utf8.acceptRanges", "math/bits.divideError", "math/bits.overflowError"], loops := true, apart := false, laid := [("unicode/utf8.acceptRanges", laid_unicode_utf8_acceptRanges), ("unicode/utf8.first", laid_unicode_utf8_first)], narrowed := true }
def OptFoldsUptoSaid : Prop := optFoldsUptoRow.holds Tryd.pinned (OpenSpec.upto optFoldsSpec)

/-- 'usancelaw15.DenoteAgain', WHERE WHAT IT READS IS OF BULK AT MOST 1048576: true; the input reads as it did. -/
def denoteAgainUptoRow : OpenClaim := { program := "ytniajhmbdbgmgaadoor", sum := "a239110da68fb3e9a4db0cd549236fc405c6e60196f830dd0c94176f65366382", func := "usance/usancelaw15.DenoteAgain", spec := "denoteAgain", inPlace := ["internal/bytealg.IndexByteString", "internal/bytealg.IndexString"], unfollowed := true, recurses := true, named := ["internal/bytealg.MaxLen", "unicode/utf8.first", "unicode/utf8.acceptRanges", "math/bits.divideError", "math/bits.overflowError"], loops := true, apart := false, laid := [("unicode/utf8.acceptRanges", laid_unicode_utf8_acceptRanges), ("unicode/utf8.first", laid_unicode_utf8_first)], narrowed := true }
def DenoteAgainUptoSaid : Prop := denoteAgainUptoRow.holds Tryd.pinned (OpenSpec.upto denoteAgainSpec)

/-- 'usancelaw15.DenoteLater', WHERE WHAT IT READS IS OF BULK AT MOST 1048576: true; the input reads as it did. -/
def denoteLaterUptoRow : OpenClaim := { program := "ytniajhmbdbgmgaadoor", sum := "a239110da68fb3e9a4db0cd549236fc405c6e60196f830dd0c94176f65366382", func := "usance/usancelaw15.DenoteLater", spec := "denoteLater", inPlace := ["internal/bytealg.IndexByteString", "internal/bytealg.IndexString"], unfollowed := true, recurses := true, named := ["internal/bytealg.MaxLen", "unicode/utf8.first", "unicode/utf8.acceptRanges", "math/bits.divideError", "math/bits.overflowError"], loops := true, apart := false, laid := [("unicode/utf8.acceptRanges", laid_unicode_utf8_acceptRanges), ("unicode/utf8.first", laid_unicode_utf8_first)], narrowed := true }
def DenoteLaterUptoSaid : Prop := denoteLaterUptoRow.holds Tryd.pinned (OpenSpec.upto denoteLaterSpec)

/-- 'usancelaw15.DenoteParts', WHERE WHAT IT READS IS OF BULK AT MOST 1048576: true; the input reads as it did. -/
def denotePartsUptoRow : OpenClaim := { program := "ytniajhmbdbgmgaadoor", sum := "a239110da68fb3e9a4db0cd549236fc405c6e60196f830dd0c94176f65366382", func := "usance/usancelaw15.DenoteParts", spec := "denoteParts", inPlace := ["internal/bytealg.IndexByteString", "internal/bytealg.IndexString"], unfollowed := true, recurses := true, named := ["internal/bytealg.MaxLen", "unicode/utf8.first", "unicode/utf8.acceptRanges", "math/bits.divideError", "math/bits.overflowError"], loops := true, apart := false, laid := [("unicode/utf8.acceptRanges", laid_unicode_utf8_acceptRanges), ("unicode/utf8.first", laid_unicode_utf8_first)], narrowed := true }
def DenotePartsUptoSaid : Prop := denotePartsUptoRow.holds Tryd.pinned (OpenSpec.upto denotePartsSpec)

/-- 'usancelaw15.DenoteTimes', WHERE WHAT IT READS IS OF BULK AT MOST 1048576: true; the input reads as it did. -/
def denoteTimesUptoRow : OpenClaim := { program := "ytniajhmbdbgmgaadoor", sum := "a239110da68fb3e9a4db0cd549236fc405c6e60196f830dd0c94176f65366382", func := "usance/usancelaw15.DenoteTimes", spec := "denoteTimes", inPlace := ["internal/bytealg.IndexByteString", "internal/bytealg.IndexString"], unfollowed := true, recurses := true, named := ["internal/bytealg.MaxLen", "unicode/utf8.first", "unicode/utf8.acceptRanges", "math/bits.divideError", "math/bits.overflowError"], loops := true, apart := false, laid := [("unicode/utf8.acceptRanges", laid_unicode_utf8_acceptRanges), ("unicode/utf8.first", laid_unicode_utf8_first)], narrowed := true }
def DenoteTimesUptoSaid : Prop := denoteTimesUptoRow.holds Tryd.pinned (OpenSpec.upto denoteTimesSpec)

/-- 'usancelaw18.VmParts', WHERE WHAT IT READS IS OF BULK AT MOST 1048576: true; the input reads as it did. -/
def vmPartsUptoRow : OpenClaim := { program := "ytniajhmbdbgmgaadoor", sum := "a239110da68fb3e9a4db0cd549236fc405c6e60196f830dd0c94176f65366382", func := "usance/usancelaw18.VmParts", spec := "vmParts", inPlace := ["internal/bytealg.IndexByteString", "internal/bytealg.IndexString"], unfollowed := true, recurses := true, named := ["internal/bytealg.MaxLen", "unicode/utf8.first", "unicode/utf8.acceptRanges", "math/bits.divideError", "math/bits.overflowError"], apart := false, laid := [("unicode/utf8.acceptRanges", laid_unicode_utf8_acceptRanges), ("unicode/utf8.first", laid_unicode_utf8_first)], narrowed := true }
def VmPartsUptoSaid : Prop := vmPartsUptoRow.holds Tryd.pinned (OpenSpec.upto vmPartsSpec)

end Rows
end Go.Proofs.YtniajhmbdbgmgaaDoor
