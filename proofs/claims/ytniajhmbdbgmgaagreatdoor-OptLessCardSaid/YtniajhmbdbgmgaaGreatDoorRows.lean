/-
  NARROWER THAN 'FOR EVERY INPUT', by the rows' own cells (each row's printed sentence says how): OptLess: loops, laid · DenoteEnds: loops, laid · GenForms: loops, laid · GenRights: laid · GenBytes: laid · GenBack: laid · VmPasses: loops, laid.
  DERIVED. THE GIVEN ROWS OF THIS SEAT. 7 by the template 'for every input the law returns true; each argument reads behind the call as it read before'; 0 by the template 'total and deterministic' (their statements: YtniajhmbdbgmgaaGreatDoorTotals.lean).
  GIVEN WITH THE SEED: the statements are not yours to turn. If you find one false, say at which input.
  Laid BY PROGRAM, IN A SANDBOX (cutbox-rows.mjs): the forced cells as the released guide's own fill.sh prints them over the translation 95389453e4ce9b2a… (all of the seat's roots in one cut). By AI agents, Wed Nov 11 2026. No macro, syntax, notation, axiom, sorry.
-/
import Derived.Test.YtniajhmbdbgmgaaGreatDoorChecked
import GoSem.PinnedTables
import GoSem.Claim
import GoSem.ClaimJoined
import GoSem.ClaimMapViews
import Derived.JoinedTies
import Derived.KernelRfl
namespace Go.Proofs.YtniajhmbdbgmgaaGreatDoor
/- THE CELL 'sum', in the pinned program and in every row, IS THE sha256 OF THE DUMP (.gsa) THAT YtniajhmbdbgmgaaGreatDoorProg.lean LOADS. Nothing in Lean hashes anything: it is a label: what it is worth is what the hold of that sum in a sandbox is worth. -/
noncomputable def Tryz.pinned : Pinned := { name := "ytniajhmbdbgmgaagreatdoor", sum := "95389453e4ce9b2a69af9bf5cc67336c41238e837e9b46f3eaa5068a2bf4aa60", checked := Tryz.checked }
namespace Rows
def none {H : Type} : Left H := { results := [], args := [] }

/- WHAT THE LISTED PACKAGE-LEVEL VARIABLES READ AS WHEN THE CALL BEGINS. Each datum BY PROGRAM (the guide's laid-datum.mjs) off the statement by which the dump's own 'gosem.cut.vars' lays the variable. In a bare row this is a premise. The card (YtniajhmbdbgmgaaGreatDoorCards.lean) ties it to the program's text. -/
def laid_unicode_utf8_acceptRanges {H : Type} : DataW H := .agg [.agg [.lit (.int .u8 128), .lit (.int .u8 191)], .agg [.lit (.int .u8 160), .lit (.int .u8 191)], .agg [.lit (.int .u8 128), .lit (.int .u8 159)], .agg [.lit (.int .u8 144), .lit (.int .u8 191)], .agg [.lit (.int .u8 128), .lit (.int .u8 143)], .agg [.lit (.int .u8 0), .lit (.int .u8 0)], .agg [.lit (.int .u8 0), .lit (.int .u8 0)], .agg [.lit (.int .u8 0), .lit (.int .u8 0)], .agg [.lit (.int .u8 0), .lit (.int .u8 0)], .agg [.lit (.int .u8 0), .lit (.int .u8 0)], .agg [.lit (.int .u8 0), .lit (.int .u8 0)], .agg [.lit (.int .u8 0), .lit (.int .u8 0)], .agg [.lit (.int .u8 0), .lit (.int .u8 0)], .agg [.lit (.int .u8 0), .lit (.int .u8 0)], .agg [.lit (.int .u8 0), .lit (.int .u8 0)], .agg [.lit (.int .u8 0), .lit (.int .u8 0)]]
/-- One of Go's own tables, pinned by name: the form's constant. -/
def laid_unicode_utf8_first : DataW Unit := Go.Pinned.utf8First

/-- 'usancelaw16.OptLess': WHATEVER THE INPUT: true; the input reads as it did. -/
def optLessSpec : ChangeSpec := { name := "optLess", fn := fun _ => fun
  | [d1, d2] => { results := [.lit (.bool true)], args := [d1, d2] }
  | _ => none }
def optLessRow : OpenClaim := { program := "ytniajhmbdbgmgaagreatdoor", sum := "95389453e4ce9b2a69af9bf5cc67336c41238e837e9b46f3eaa5068a2bf4aa60", func := "usance/usancelaw16.OptLess", spec := "optLess", inPlace := ["internal/bytealg.IndexByteString", "internal/bytealg.IndexString"], unfollowed := true, recurses := true, named := ["internal/bytealg.MaxLen", "unicode/utf8.first", "unicode/utf8.acceptRanges", "math/bits.divideError", "math/bits.overflowError"], loops := true, plainKeys := false, apart := false, laid := [("unicode/utf8.acceptRanges", laid_unicode_utf8_acceptRanges), ("unicode/utf8.first", laid_unicode_utf8_first)] }
def OptLessSaid : Prop := optLessRow.holds Tryz.pinned (OpenSpec.ofChange optLessSpec)

/-- ITS FALSE NEIGHBOUR: 'it returns false'. Refute it at one input. -/
def optLessWrong : ChangeSpec := { name := "optLess", fn := fun _ => fun
  | [d1, d2] => { results := [.lit (.bool false)], args := [d1, d2] }
  | _ => none }
def OptLessWrongFalsely : Prop := optLessRow.holds Tryz.pinned (OpenSpec.ofChange optLessWrong)

/-- 'usancelaw15.DenoteEnds': WHATEVER THE INPUT: true; the input reads as it did. -/
def denoteEndsSpec : ChangeSpec := { name := "denoteEnds", fn := fun _ => fun
  | [d1, d2, d3, d4] => { results := [.lit (.bool true)], args := [d1, d2, d3, d4] }
  | _ => none }
def denoteEndsRow : OpenClaim := { program := "ytniajhmbdbgmgaagreatdoor", sum := "95389453e4ce9b2a69af9bf5cc67336c41238e837e9b46f3eaa5068a2bf4aa60", func := "usance/usancelaw15.DenoteEnds", spec := "denoteEnds", inPlace := ["internal/bytealg.IndexByteString", "internal/bytealg.IndexString"], unfollowed := true, recurses := true, named := ["internal/bytealg.MaxLen", "unicode/utf8.first", "unicode/utf8.acceptRanges", "math/bits.divideError", "math/bits.overflowError"], loops := true, plainKeys := false, apart := false, laid := [("unicode/utf8.acceptRanges", laid_unicode_utf8_acceptRanges), ("unicode/utf8.first", laid_unicode_utf8_first)] }
def DenoteEndsSaid : Prop := denoteEndsRow.holds Tryz.pinned (OpenSpec.ofChange denoteEndsSpec)

/-- ITS FALSE NEIGHBOUR: 'it returns false'. Refute it at one input. -/
def denoteEndsWrong : ChangeSpec := { name := "denoteEnds", fn := fun _ => fun
  | [d1, d2, d3, d4] => { results := [.lit (.bool false)], args := [d1, d2, d3, d4] }
  | _ => none }
def DenoteEndsWrongFalsely : Prop := denoteEndsRow.holds Tryz.pinned (OpenSpec.ofChange denoteEndsWrong)

/-- 'usancelaw17.GenForms': WHATEVER THE INPUT: true; the input reads as it did. -/
def genFormsSpec : ChangeSpec := { name := "genForms", fn := fun _ => fun
  | [d1, d2] => { results := [.lit (.bool true)], args := [d1, d2] }
  | _ => none }
def genFormsRow : OpenClaim := { program := "ytniajhmbdbgmgaagreatdoor", sum := "95389453e4ce9b2a69af9bf5cc67336c41238e837e9b46f3eaa5068a2bf4aa60", func := "usance/usancelaw17.GenForms", spec := "genForms", inPlace := ["internal/bytealg.IndexByteString", "internal/bytealg.IndexString", "maps.clone"], unfollowed := true, recurses := true, named := ["internal/bytealg.MaxLen", "unicode/utf8.first", "unicode/utf8.acceptRanges", "math/bits.divideError", "math/bits.overflowError"], loops := true, plainKeys := false, apart := false, laid := [("unicode/utf8.acceptRanges", laid_unicode_utf8_acceptRanges), ("unicode/utf8.first", laid_unicode_utf8_first)] }
def GenFormsSaid : Prop := genFormsRow.holds Tryz.pinned (OpenSpec.ofChange genFormsSpec)

/-- ITS FALSE NEIGHBOUR: 'it returns false'. Refute it at one input. -/
def genFormsWrong : ChangeSpec := { name := "genForms", fn := fun _ => fun
  | [d1, d2] => { results := [.lit (.bool false)], args := [d1, d2] }
  | _ => none }
def GenFormsWrongFalsely : Prop := genFormsRow.holds Tryz.pinned (OpenSpec.ofChange genFormsWrong)

/-- 'usancelaw17.GenRights': WHATEVER THE INPUT: true; the input reads as it did. -/
def genRightsSpec : ChangeSpec := { name := "genRights", fn := fun _ => fun
  | [d] => { results := [.lit (.bool true)], args := [d] }
  | _ => none }
def genRightsRow : OpenClaim := { program := "ytniajhmbdbgmgaagreatdoor", sum := "95389453e4ce9b2a69af9bf5cc67336c41238e837e9b46f3eaa5068a2bf4aa60", func := "usance/usancelaw17.GenRights", spec := "genRights", inPlace := ["internal/bytealg.IndexByteString", "internal/bytealg.IndexString", "maps.clone"], unfollowed := true, recurses := true, named := ["internal/bytealg.MaxLen", "unicode/utf8.first", "unicode/utf8.acceptRanges", "math/bits.divideError", "math/bits.overflowError"], plainKeys := false, apart := false, laid := [("unicode/utf8.acceptRanges", laid_unicode_utf8_acceptRanges), ("unicode/utf8.first", laid_unicode_utf8_first)] }
def GenRightsSaid : Prop := genRightsRow.holds Tryz.pinned (OpenSpec.ofChange genRightsSpec)

/-- ITS FALSE NEIGHBOUR: 'it returns false'. Refute it at one input. -/
def genRightsWrong : ChangeSpec := { name := "genRights", fn := fun _ => fun
  | [d] => { results := [.lit (.bool false)], args := [d] }
  | _ => none }
def GenRightsWrongFalsely : Prop := genRightsRow.holds Tryz.pinned (OpenSpec.ofChange genRightsWrong)

/-- 'usancelaw17.GenBytes': WHATEVER THE INPUT: true; the input reads as it did. -/
def genBytesSpec : ChangeSpec := { name := "genBytes", fn := fun _ => fun
  | [d] => { results := [.lit (.bool true)], args := [d] }
  | _ => none }
def genBytesRow : OpenClaim := { program := "ytniajhmbdbgmgaagreatdoor", sum := "95389453e4ce9b2a69af9bf5cc67336c41238e837e9b46f3eaa5068a2bf4aa60", func := "usance/usancelaw17.GenBytes", spec := "genBytes", inPlace := ["internal/bytealg.IndexByteString", "internal/bytealg.IndexString", "maps.clone"], unfollowed := true, recurses := true, named := ["internal/bytealg.MaxLen", "unicode/utf8.first", "unicode/utf8.acceptRanges", "math/bits.divideError", "math/bits.overflowError"], plainKeys := false, apart := false, laid := [("unicode/utf8.acceptRanges", laid_unicode_utf8_acceptRanges), ("unicode/utf8.first", laid_unicode_utf8_first)] }
def GenBytesSaid : Prop := genBytesRow.holds Tryz.pinned (OpenSpec.ofChange genBytesSpec)

/-- ITS FALSE NEIGHBOUR: 'it returns false'. Refute it at one input. -/
def genBytesWrong : ChangeSpec := { name := "genBytes", fn := fun _ => fun
  | [d] => { results := [.lit (.bool false)], args := [d] }
  | _ => none }
def GenBytesWrongFalsely : Prop := genBytesRow.holds Tryz.pinned (OpenSpec.ofChange genBytesWrong)

/-- 'usancelaw17.GenBack': WHATEVER THE INPUT: true; the input reads as it did. -/
def genBackSpec : ChangeSpec := { name := "genBack", fn := fun _ => fun
  | [d1, d2] => { results := [.lit (.bool true)], args := [d1, d2] }
  | _ => none }
def genBackRow : OpenClaim := { program := "ytniajhmbdbgmgaagreatdoor", sum := "95389453e4ce9b2a69af9bf5cc67336c41238e837e9b46f3eaa5068a2bf4aa60", func := "usance/usancelaw17.GenBack", spec := "genBack", inPlace := ["internal/bytealg.IndexByteString", "internal/bytealg.IndexString", "maps.clone"], unfollowed := true, recurses := true, named := ["internal/bytealg.MaxLen", "unicode/utf8.first", "unicode/utf8.acceptRanges", "math/bits.divideError", "math/bits.overflowError"], plainKeys := false, apart := false, laid := [("unicode/utf8.acceptRanges", laid_unicode_utf8_acceptRanges), ("unicode/utf8.first", laid_unicode_utf8_first)] }
def GenBackSaid : Prop := genBackRow.holds Tryz.pinned (OpenSpec.ofChange genBackSpec)

/-- ITS FALSE NEIGHBOUR: 'it returns false'. Refute it at one input. -/
def genBackWrong : ChangeSpec := { name := "genBack", fn := fun _ => fun
  | [d1, d2] => { results := [.lit (.bool false)], args := [d1, d2] }
  | _ => none }
def GenBackWrongFalsely : Prop := genBackRow.holds Tryz.pinned (OpenSpec.ofChange genBackWrong)

/-- 'usancelaw18.VmPasses': WHATEVER THE INPUT: true; the input reads as it did. -/
def vmPassesSpec : ChangeSpec := { name := "vmPasses", fn := fun _ => fun
  | [d1, d2, d3, d4, d5] => { results := [.lit (.bool true)], args := [d1, d2, d3, d4, d5] }
  | _ => none }
def vmPassesRow : OpenClaim := { program := "ytniajhmbdbgmgaagreatdoor", sum := "95389453e4ce9b2a69af9bf5cc67336c41238e837e9b46f3eaa5068a2bf4aa60", func := "usance/usancelaw18.VmPasses", spec := "vmPasses", inPlace := ["internal/bytealg.IndexByteString", "internal/bytealg.IndexString", "maps.clone"], unfollowed := true, recurses := true, named := ["internal/bytealg.MaxLen", "unicode/utf8.first", "unicode/utf8.acceptRanges", "math/bits.divideError", "math/bits.overflowError"], loops := true, plainKeys := false, apart := false, laid := [("unicode/utf8.acceptRanges", laid_unicode_utf8_acceptRanges), ("unicode/utf8.first", laid_unicode_utf8_first)] }
def VmPassesSaid : Prop := vmPassesRow.holds Tryz.pinned (OpenSpec.ofChange vmPassesSpec)

/-- ITS FALSE NEIGHBOUR: 'it returns false'. Refute it at one input. -/
def vmPassesWrong : ChangeSpec := { name := "vmPasses", fn := fun _ => fun
  | [d1, d2, d3, d4, d5] => { results := [.lit (.bool false)], args := [d1, d2, d3, d4, d5] }
  | _ => none }
def VmPassesWrongFalsely : Prop := vmPassesRow.holds Tryz.pinned (OpenSpec.ofChange vmPassesWrong)

/- THE SECOND FORM. 'bulk': how many values and letters a reading holds, each counted each time it is reached (what is shared counts as often as it is met; a slice's spare places count too). A statement '..UptoSaid' is the law's where the arguments, and the package variables that the reading takes, are together of bulk at most 1048576: NARROWER than '..Said'. Prove '..Said' where nothing that the law and all that it calls make is longer than what came in: it says more and counts as full. Else prove '..UptoSaid'. A law counts once. -/
mutual
def uptoBulk {H : Type} : DataW H → Nat
  | .lit (.string bytes) => bytes.length + 1
  | .lit _ => 1
  | .nil => 1
  | .ptr d => uptoBulk d + 1
  | .slice elems spare => uptoBulkAll elems + uptoBulkAll spare + 1
  | .agg parts => uptoBulkAll parts + 1
  | .iface _ d => uptoBulk d + 1
  | .map entries => uptoBulkEntries entries + 1
  | .held _ => 1
def uptoBulkAll {H : Type} : List (DataW H) → Nat
  | [] => 0
  | d :: r => uptoBulk d + uptoBulkAll r
def uptoBulkEntries {H : Type} : List (Lit × DataW H) → Nat
  | [] => 0
  | x :: r => uptoBulkEntry x + uptoBulkEntries r
def uptoBulkEntry {H : Type} : Lit × DataW H → Nat
  | (.string bytes, d) => bytes.length + uptoBulk d + 1
  | (_, d) => uptoBulk d + 1
 end
def uptoSmall : (H : Type) → List (DataW H) → Bool := fun _ ds => decide (uptoBulkAll ds ≤ 1048576)
def OpenSpec.upto (s : _root_.Go.ChangeSpec) : _root_.Go.OpenSpec := { _root_.Go.OpenSpec.ofChange s with cond := some uptoSmall }

/-- 'usancelaw16.OptLess', WHERE WHAT IT READS IS OF BULK AT MOST 1048576: true; the input reads as it did. -/
def optLessUptoRow : OpenClaim := { program := "ytniajhmbdbgmgaagreatdoor", sum := "95389453e4ce9b2a69af9bf5cc67336c41238e837e9b46f3eaa5068a2bf4aa60", func := "usance/usancelaw16.OptLess", spec := "optLess", inPlace := ["internal/bytealg.IndexByteString", "internal/bytealg.IndexString"], unfollowed := true, recurses := true, named := ["internal/bytealg.MaxLen", "unicode/utf8.first", "unicode/utf8.acceptRanges", "math/bits.divideError", "math/bits.overflowError"], loops := true, plainKeys := false, apart := false, laid := [("unicode/utf8.acceptRanges", laid_unicode_utf8_acceptRanges), ("unicode/utf8.first", laid_unicode_utf8_first)], narrowed := true }
def OptLessUptoSaid : Prop := optLessUptoRow.holds Tryz.pinned (OpenSpec.upto optLessSpec)

/-- 'usancelaw15.DenoteEnds', WHERE WHAT IT READS IS OF BULK AT MOST 1048576: true; the input reads as it did. -/
def denoteEndsUptoRow : OpenClaim := { program := "ytniajhmbdbgmgaagreatdoor", sum := "95389453e4ce9b2a69af9bf5cc67336c41238e837e9b46f3eaa5068a2bf4aa60", func := "usance/usancelaw15.DenoteEnds", spec := "denoteEnds", inPlace := ["internal/bytealg.IndexByteString", "internal/bytealg.IndexString"], unfollowed := true, recurses := true, named := ["internal/bytealg.MaxLen", "unicode/utf8.first", "unicode/utf8.acceptRanges", "math/bits.divideError", "math/bits.overflowError"], loops := true, plainKeys := false, apart := false, laid := [("unicode/utf8.acceptRanges", laid_unicode_utf8_acceptRanges), ("unicode/utf8.first", laid_unicode_utf8_first)], narrowed := true }
def DenoteEndsUptoSaid : Prop := denoteEndsUptoRow.holds Tryz.pinned (OpenSpec.upto denoteEndsSpec)

/-- 'usancelaw17.GenForms', WHERE WHAT IT READS IS OF BULK AT MOST 1048576: true; the input reads as it did. -/
def genFormsUptoRow : OpenClaim := { program := "ytniajhmbdbgmgaagreatdoor", sum := "95389453e4ce9b2a69af9bf5cc67336c41238e837e9b46f3eaa5068a2bf4aa60", func := "usance/usancelaw17.GenForms", spec := "genForms", inPlace := ["internal/bytealg.IndexByteString", "internal/bytealg.IndexString", "maps.clone"], unfollowed := true, recurses := true, named := ["internal/bytealg.MaxLen", "unicode/utf8.first", "unicode/utf8.acceptRanges", "math/bits.divideError", "math/bits.overflowError"], loops := true, plainKeys := false, apart := false, laid := [("unicode/utf8.acceptRanges", laid_unicode_utf8_acceptRanges), ("unicode/utf8.first", laid_unicode_utf8_first)], narrowed := true }
def GenFormsUptoSaid : Prop := genFormsUptoRow.holds Tryz.pinned (OpenSpec.upto genFormsSpec)

/-- 'usancelaw17.GenRights', WHERE WHAT IT READS IS OF BULK AT MOST 1048576: true; the input reads as it did. -/
def genRightsUptoRow : OpenClaim := { program := "ytniajhmbdbgmgaagreatdoor", sum := "95389453e4ce9b2a69af9bf5cc67336c41238e837e9b46f3eaa5068a2bf4aa60", func := "usance/usancelaw17.GenRights", spec := "genRights", inPlace := ["internal/bytealg.IndexByteString", "internal/bytealg.IndexString", "maps.clone"], unfollowed := true, recurses := true, named := ["internal/bytealg.MaxLen", "unicode/utf8.first", "unicode/utf8.acceptRanges", "math/bits.divideError", "math/bits.overflowError"], plainKeys := false, apart := false, laid := [("unicode/utf8.acceptRanges", laid_unicode_utf8_acceptRanges), ("unicode/utf8.first", laid_unicode_utf8_first)], narrowed := true }
def GenRightsUptoSaid : Prop := genRightsUptoRow.holds Tryz.pinned (OpenSpec.upto genRightsSpec)

/-- 'usancelaw17.GenBytes', WHERE WHAT IT READS IS OF BULK AT MOST 1048576: true; the input reads as it did. -/
def genBytesUptoRow : OpenClaim := { program := "ytniajhmbdbgmgaagreatdoor", sum := "95389453e4ce9b2a69af9bf5cc67336c41238e837e9b46f3eaa5068a2bf4aa60", func := "usance/usancelaw17.GenBytes", spec := "genBytes", inPlace := ["internal/bytealg.IndexByteString", "internal/bytealg.IndexString", "maps.clone"], unfollowed := true, recurses := true, named := ["internal/bytealg.MaxLen", "unicode/utf8.first", "unicode/utf8.acceptRanges", "math/bits.divideError", "math/bits.overflowError"], plainKeys := false, apart := false, laid := [("unicode/utf8.acceptRanges", laid_unicode_utf8_acceptRanges), ("unicode/utf8.first", laid_unicode_utf8_first)], narrowed := true }
def GenBytesUptoSaid : Prop := genBytesUptoRow.holds Tryz.pinned (OpenSpec.upto genBytesSpec)

/-- 'usancelaw17.GenBack', WHERE WHAT IT READS IS OF BULK AT MOST 1048576: true; the input reads as it did. -/
def genBackUptoRow : OpenClaim := { program := "ytniajhmbdbgmgaagreatdoor", sum := "95389453e4ce9b2a69af9bf5cc67336c41238e837e9b46f3eaa5068a2bf4aa60", func := "usance/usancelaw17.GenBack", spec := "genBack", inPlace := ["internal/bytealg.IndexByteString", "internal/bytealg.IndexString", "maps.clone"], unfollowed := true, recurses := true, named := ["internal/bytealg.MaxLen", "unicode/utf8.first", "unicode/utf8.acceptRanges", "math/bits.divideError", "math/bits.overflowError"], plainKeys := false, apart := false, laid := [("unicode/utf8.acceptRanges", laid_unicode_utf8_acceptRanges), ("unicode/utf8.first", laid_unicode_utf8_first)], narrowed := true }
def GenBackUptoSaid : Prop := genBackUptoRow.holds Tryz.pinned (OpenSpec.upto genBackSpec)

/-- 'usancelaw18.VmPasses', WHERE WHAT IT READS IS OF BULK AT MOST 1048576: true; the input reads as it did. -/
def vmPassesUptoRow : OpenClaim := { program := "ytniajhmbdbgmgaagreatdoor", sum := "95389453e4ce9b2a69af9bf5cc67336c41238e837e9b46f3eaa5068a2bf4aa60", func := "usance/usancelaw18.VmPasses", spec := "vmPasses", inPlace := ["internal/bytealg.IndexByteString", "internal/bytealg.IndexString", "maps.clone"], unfollowed := true, recurses := true, named := ["internal/bytealg.MaxLen", "unicode/utf8.first", "unicode/utf8.acceptRanges", "math/bits.divideError", "math/bits.overflowError"], loops := true, plainKeys := false, apart := false, laid := [("unicode/utf8.acceptRanges", laid_unicode_utf8_acceptRanges), ("unicode/utf8.first", laid_unicode_utf8_first)], narrowed := true }
def VmPassesUptoSaid : Prop := vmPassesUptoRow.holds Tryz.pinned (OpenSpec.upto vmPassesSpec)

end Rows
end Go.Proofs.YtniajhmbdbgmgaaGreatDoor
