/-
  NARROWER THAN 'FOR EVERY INPUT', by the rows' own cells (each row's printed sentence says how): ValidModules: laid · ValidCalls: laid · ValidLess: laid · ValidMore: laid · ValidTwice: laid · LinkResolves: laid · ValidPatches: laid · LinkOnly: laid · LinkMoves: laid · LinkImports: laid.
  DERIVED. THE GIVEN ROWS OF THIS SEAT. 10 by the template 'for every input the law returns true; each argument reads behind the call as it read before'; 0 by the template 'total and deterministic' (their statements: YtiphindialkmnaaDoorTotals.lean).
  GIVEN WITH THE SEED: the statements are not yours to turn. If you find one false, say at which input.
  Laid BY PROGRAM, IN A SANDBOX (cutbox-rows.mjs): the forced cells as the released guide's own fill.sh prints them over the translation 43e60ea9a050f9be… (all of the seat's roots in one cut). By AI agents, Wed Nov 11 2026. No macro, syntax, notation, axiom, sorry.
-/
import Derived.Test.YtiphindialkmnaaDoorChecked
import GoSem.PinnedTables
import GoSem.Claim
import GoSem.ClaimJoined
import GoSem.ClaimMapViews
import Derived.JoinedTies
import Derived.KernelRfl
namespace Go.Proofs.YtiphindialkmnaaDoor
/- THE CELL 'sum', in the pinned program and in every row, IS THE sha256 OF THE DUMP (.gsa) THAT YtiphindialkmnaaDoorProg.lean LOADS. Nothing in Lean hashes anything: it is a label: what it is worth is what the hold of that sum in a sandbox is worth. -/
noncomputable def Tryd.pinned : Pinned := { name := "ytiphindialkmnaadoor", sum := "43e60ea9a050f9be24fa2a931382dde2ee1f4f679d2d511f2fa87dd85f10e8a1", checked := Tryd.checked }
namespace Rows
def none {H : Type} : Left H := { results := [], args := [] }

/- WHAT THE LISTED PACKAGE-LEVEL VARIABLES READ AS WHEN THE CALL BEGINS. Each datum BY PROGRAM (the guide's laid-datum.mjs) off the statement by which the dump's own 'gosem.cut.vars' lays the variable. In a bare row this is a premise. The card (YtiphindialkmnaaDoorCards.lean) ties it to the program's text. -/
def laid_unicode_utf8_acceptRanges {H : Type} : DataW H := .agg [.agg [.lit (.int .u8 128), .lit (.int .u8 191)], .agg [.lit (.int .u8 160), .lit (.int .u8 191)], .agg [.lit (.int .u8 128), .lit (.int .u8 159)], .agg [.lit (.int .u8 144), .lit (.int .u8 191)], .agg [.lit (.int .u8 128), .lit (.int .u8 143)], .agg [.lit (.int .u8 0), .lit (.int .u8 0)], .agg [.lit (.int .u8 0), .lit (.int .u8 0)], .agg [.lit (.int .u8 0), .lit (.int .u8 0)], .agg [.lit (.int .u8 0), .lit (.int .u8 0)], .agg [.lit (.int .u8 0), .lit (.int .u8 0)], .agg [.lit (.int .u8 0), .lit (.int .u8 0)], .agg [.lit (.int .u8 0), .lit (.int .u8 0)], .agg [.lit (.int .u8 0), .lit (.int .u8 0)], .agg [.lit (.int .u8 0), .lit (.int .u8 0)], .agg [.lit (.int .u8 0), .lit (.int .u8 0)], .agg [.lit (.int .u8 0), .lit (.int .u8 0)]]
/-- One of Go's own tables, pinned by name: the form's constant. -/
def laid_unicode_utf8_first : DataW Unit := Go.Pinned.utf8First

/-- 'budwoodlaw11.ValidModules': WHATEVER THE INPUT: true; the input reads as it did. -/
def validModulesSpec : ChangeSpec := { name := "validModules", fn := fun _ => fun
  | [d] => { results := [.lit (.bool true)], args := [d] }
  | _ => none }
def validModulesRow : OpenClaim := { program := "ytiphindialkmnaadoor", sum := "43e60ea9a050f9be24fa2a931382dde2ee1f4f679d2d511f2fa87dd85f10e8a1", func := "budwood/budwoodlaw11.ValidModules", spec := "validModules", inPlace := ["internal/bytealg.IndexByteString", "internal/bytealg.IndexString"], unfollowed := true, recurses := true, named := ["internal/bytealg.MaxLen", "unicode/utf8.first", "unicode/utf8.acceptRanges"], plainKeys := false, apart := false, laid := [("unicode/utf8.acceptRanges", laid_unicode_utf8_acceptRanges), ("unicode/utf8.first", laid_unicode_utf8_first)] }
def ValidModulesSaid : Prop := validModulesRow.holds Tryd.pinned (OpenSpec.ofChange validModulesSpec)

/-- ITS FALSE NEIGHBOUR: 'it returns false'. Refute it at one input. -/
def validModulesWrong : ChangeSpec := { name := "validModules", fn := fun _ => fun
  | [d] => { results := [.lit (.bool false)], args := [d] }
  | _ => none }
def ValidModulesWrongFalsely : Prop := validModulesRow.holds Tryd.pinned (OpenSpec.ofChange validModulesWrong)

/-- 'budwoodlaw11.ValidCalls': WHATEVER THE INPUT: true; the input reads as it did. -/
def validCallsSpec : ChangeSpec := { name := "validCalls", fn := fun _ => fun
  | [d] => { results := [.lit (.bool true)], args := [d] }
  | _ => none }
def validCallsRow : OpenClaim := { program := "ytiphindialkmnaadoor", sum := "43e60ea9a050f9be24fa2a931382dde2ee1f4f679d2d511f2fa87dd85f10e8a1", func := "budwood/budwoodlaw11.ValidCalls", spec := "validCalls", inPlace := ["internal/bytealg.IndexByteString", "internal/bytealg.IndexString"], unfollowed := true, recurses := true, named := ["internal/bytealg.MaxLen", "unicode/utf8.first", "unicode/utf8.acceptRanges"], plainKeys := false, apart := false, laid := [("unicode/utf8.acceptRanges", laid_unicode_utf8_acceptRanges), ("unicode/utf8.first", laid_unicode_utf8_first)] }
def ValidCallsSaid : Prop := validCallsRow.holds Tryd.pinned (OpenSpec.ofChange validCallsSpec)

/-- ITS FALSE NEIGHBOUR: 'it returns false'. Refute it at one input. -/
def validCallsWrong : ChangeSpec := { name := "validCalls", fn := fun _ => fun
  | [d] => { results := [.lit (.bool false)], args := [d] }
  | _ => none }
def ValidCallsWrongFalsely : Prop := validCallsRow.holds Tryd.pinned (OpenSpec.ofChange validCallsWrong)

/-- 'budwoodlaw11.ValidLess': WHATEVER THE INPUT: true; the input reads as it did. -/
def validLessSpec : ChangeSpec := { name := "validLess", fn := fun _ => fun
  | [d] => { results := [.lit (.bool true)], args := [d] }
  | _ => none }
def validLessRow : OpenClaim := { program := "ytiphindialkmnaadoor", sum := "43e60ea9a050f9be24fa2a931382dde2ee1f4f679d2d511f2fa87dd85f10e8a1", func := "budwood/budwoodlaw11.ValidLess", spec := "validLess", inPlace := ["internal/bytealg.IndexByteString", "internal/bytealg.IndexString"], unfollowed := true, recurses := true, named := ["internal/bytealg.MaxLen", "unicode/utf8.first", "unicode/utf8.acceptRanges"], plainKeys := false, apart := false, laid := [("unicode/utf8.acceptRanges", laid_unicode_utf8_acceptRanges), ("unicode/utf8.first", laid_unicode_utf8_first)] }
def ValidLessSaid : Prop := validLessRow.holds Tryd.pinned (OpenSpec.ofChange validLessSpec)

/-- ITS FALSE NEIGHBOUR: 'it returns false'. Refute it at one input. -/
def validLessWrong : ChangeSpec := { name := "validLess", fn := fun _ => fun
  | [d] => { results := [.lit (.bool false)], args := [d] }
  | _ => none }
def ValidLessWrongFalsely : Prop := validLessRow.holds Tryd.pinned (OpenSpec.ofChange validLessWrong)

/-- 'budwoodlaw11.ValidMore': WHATEVER THE INPUT: true; the input reads as it did. -/
def validMoreSpec : ChangeSpec := { name := "validMore", fn := fun _ => fun
  | [d1, d2] => { results := [.lit (.bool true)], args := [d1, d2] }
  | _ => none }
def validMoreRow : OpenClaim := { program := "ytiphindialkmnaadoor", sum := "43e60ea9a050f9be24fa2a931382dde2ee1f4f679d2d511f2fa87dd85f10e8a1", func := "budwood/budwoodlaw11.ValidMore", spec := "validMore", inPlace := ["internal/bytealg.IndexByteString", "internal/bytealg.IndexString"], unfollowed := true, recurses := true, named := ["internal/bytealg.MaxLen", "unicode/utf8.first", "unicode/utf8.acceptRanges"], plainKeys := false, apart := false, laid := [("unicode/utf8.acceptRanges", laid_unicode_utf8_acceptRanges), ("unicode/utf8.first", laid_unicode_utf8_first)] }
def ValidMoreSaid : Prop := validMoreRow.holds Tryd.pinned (OpenSpec.ofChange validMoreSpec)

/-- ITS FALSE NEIGHBOUR: 'it returns false'. Refute it at one input. -/
def validMoreWrong : ChangeSpec := { name := "validMore", fn := fun _ => fun
  | [d1, d2] => { results := [.lit (.bool false)], args := [d1, d2] }
  | _ => none }
def ValidMoreWrongFalsely : Prop := validMoreRow.holds Tryd.pinned (OpenSpec.ofChange validMoreWrong)

/-- 'budwoodlaw11.ValidTwice': WHATEVER THE INPUT: true; the input reads as it did. -/
def validTwiceSpec : ChangeSpec := { name := "validTwice", fn := fun _ => fun
  | [d1, d2] => { results := [.lit (.bool true)], args := [d1, d2] }
  | _ => none }
def validTwiceRow : OpenClaim := { program := "ytiphindialkmnaadoor", sum := "43e60ea9a050f9be24fa2a931382dde2ee1f4f679d2d511f2fa87dd85f10e8a1", func := "budwood/budwoodlaw11.ValidTwice", spec := "validTwice", inPlace := ["internal/bytealg.IndexByteString", "internal/bytealg.IndexString"], unfollowed := true, recurses := true, named := ["internal/bytealg.MaxLen", "unicode/utf8.first", "unicode/utf8.acceptRanges"], plainKeys := false, apart := false, laid := [("unicode/utf8.acceptRanges", laid_unicode_utf8_acceptRanges), ("unicode/utf8.first", laid_unicode_utf8_first)] }
def ValidTwiceSaid : Prop := validTwiceRow.holds Tryd.pinned (OpenSpec.ofChange validTwiceSpec)

/-- ITS FALSE NEIGHBOUR: 'it returns false'. Refute it at one input. -/
def validTwiceWrong : ChangeSpec := { name := "validTwice", fn := fun _ => fun
  | [d1, d2] => { results := [.lit (.bool false)], args := [d1, d2] }
  | _ => none }
def ValidTwiceWrongFalsely : Prop := validTwiceRow.holds Tryd.pinned (OpenSpec.ofChange validTwiceWrong)

/-- 'budwoodlaw16.LinkResolves': WHATEVER THE INPUT: true; the input reads as it did. -/
def linkResolvesSpec : ChangeSpec := { name := "linkResolves", fn := fun _ => fun
  | [d1, d2] => { results := [.lit (.bool true)], args := [d1, d2] }
  | _ => none }
def linkResolvesRow : OpenClaim := { program := "ytiphindialkmnaadoor", sum := "43e60ea9a050f9be24fa2a931382dde2ee1f4f679d2d511f2fa87dd85f10e8a1", func := "budwood/budwoodlaw16.LinkResolves", spec := "linkResolves", inPlace := ["internal/bytealg.IndexByteString", "internal/bytealg.IndexString"], unfollowed := true, recurses := true, named := ["internal/bytealg.MaxLen", "unicode/utf8.first", "unicode/utf8.acceptRanges"], plainKeys := false, apart := false, laid := [("unicode/utf8.acceptRanges", laid_unicode_utf8_acceptRanges), ("unicode/utf8.first", laid_unicode_utf8_first)] }
def LinkResolvesSaid : Prop := linkResolvesRow.holds Tryd.pinned (OpenSpec.ofChange linkResolvesSpec)

/-- ITS FALSE NEIGHBOUR: 'it returns false'. Refute it at one input. -/
def linkResolvesWrong : ChangeSpec := { name := "linkResolves", fn := fun _ => fun
  | [d1, d2] => { results := [.lit (.bool false)], args := [d1, d2] }
  | _ => none }
def LinkResolvesWrongFalsely : Prop := linkResolvesRow.holds Tryd.pinned (OpenSpec.ofChange linkResolvesWrong)

/-- 'budwoodlaw11.ValidPatches': WHATEVER THE INPUT: true; the input reads as it did. -/
def validPatchesSpec : ChangeSpec := { name := "validPatches", fn := fun _ => fun
  | [d1, d2] => { results := [.lit (.bool true)], args := [d1, d2] }
  | _ => none }
def validPatchesRow : OpenClaim := { program := "ytiphindialkmnaadoor", sum := "43e60ea9a050f9be24fa2a931382dde2ee1f4f679d2d511f2fa87dd85f10e8a1", func := "budwood/budwoodlaw11.ValidPatches", spec := "validPatches", inPlace := ["internal/bytealg.IndexByteString", "internal/bytealg.IndexString"], unfollowed := true, recurses := true, named := ["internal/bytealg.MaxLen", "unicode/utf8.first", "unicode/utf8.acceptRanges"], plainKeys := false, apart := false, laid := [("unicode/utf8.acceptRanges", laid_unicode_utf8_acceptRanges), ("unicode/utf8.first", laid_unicode_utf8_first)] }
def ValidPatchesSaid : Prop := validPatchesRow.holds Tryd.pinned (OpenSpec.ofChange validPatchesSpec)

/-- ITS FALSE NEIGHBOUR: 'it returns false'. Refute it at one input. -/
def validPatchesWrong : ChangeSpec := { name := "validPatches", fn := fun _ => fun
  | [d1, d2] => { results := [.lit (.bool false)], args := [d1, d2] }
  | _ => none }
def ValidPatchesWrongFalsely : Prop := validPatchesRow.holds Tryd.pinned (OpenSpec.ofChange validPatchesWrong)

/-- 'budwoodlaw16.LinkOnly': WHATEVER THE INPUT: true; the input reads as it did. -/
def linkOnlySpec : ChangeSpec := { name := "linkOnly", fn := fun _ => fun
  | [d1, d2, d3] => { results := [.lit (.bool true)], args := [d1, d2, d3] }
  | _ => none }
def linkOnlyRow : OpenClaim := { program := "ytiphindialkmnaadoor", sum := "43e60ea9a050f9be24fa2a931382dde2ee1f4f679d2d511f2fa87dd85f10e8a1", func := "budwood/budwoodlaw16.LinkOnly", spec := "linkOnly", inPlace := ["internal/bytealg.IndexByteString", "internal/bytealg.IndexString"], unfollowed := true, recurses := true, named := ["internal/bytealg.MaxLen", "unicode/utf8.first", "unicode/utf8.acceptRanges"], plainKeys := false, apart := false, laid := [("unicode/utf8.acceptRanges", laid_unicode_utf8_acceptRanges), ("unicode/utf8.first", laid_unicode_utf8_first)] }
def LinkOnlySaid : Prop := linkOnlyRow.holds Tryd.pinned (OpenSpec.ofChange linkOnlySpec)

/-- ITS FALSE NEIGHBOUR: 'it returns false'. Refute it at one input. -/
def linkOnlyWrong : ChangeSpec := { name := "linkOnly", fn := fun _ => fun
  | [d1, d2, d3] => { results := [.lit (.bool false)], args := [d1, d2, d3] }
  | _ => none }
def LinkOnlyWrongFalsely : Prop := linkOnlyRow.holds Tryd.pinned (OpenSpec.ofChange linkOnlyWrong)

/-- 'budwoodlaw16.LinkMoves': WHATEVER THE INPUT: true; the input reads as it did. -/
def linkMovesSpec : ChangeSpec := { name := "linkMoves", fn := fun _ => fun
  | [d1, d2, d3] => { results := [.lit (.bool true)], args := [d1, d2, d3] }
  | _ => none }
def linkMovesRow : OpenClaim := { program := "ytiphindialkmnaadoor", sum := "43e60ea9a050f9be24fa2a931382dde2ee1f4f679d2d511f2fa87dd85f10e8a1", func := "budwood/budwoodlaw16.LinkMoves", spec := "linkMoves", inPlace := ["internal/bytealg.IndexByteString", "internal/bytealg.IndexString"], unfollowed := true, recurses := true, named := ["internal/bytealg.MaxLen", "unicode/utf8.first", "unicode/utf8.acceptRanges"], plainKeys := false, apart := false, laid := [("unicode/utf8.acceptRanges", laid_unicode_utf8_acceptRanges), ("unicode/utf8.first", laid_unicode_utf8_first)] }
def LinkMovesSaid : Prop := linkMovesRow.holds Tryd.pinned (OpenSpec.ofChange linkMovesSpec)

/-- ITS FALSE NEIGHBOUR: 'it returns false'. Refute it at one input. -/
def linkMovesWrong : ChangeSpec := { name := "linkMoves", fn := fun _ => fun
  | [d1, d2, d3] => { results := [.lit (.bool false)], args := [d1, d2, d3] }
  | _ => none }
def LinkMovesWrongFalsely : Prop := linkMovesRow.holds Tryd.pinned (OpenSpec.ofChange linkMovesWrong)

/-- 'budwoodlaw16.LinkImports': WHATEVER THE INPUT: true; the input reads as it did. -/
def linkImportsSpec : ChangeSpec := { name := "linkImports", fn := fun _ => fun
  | [d1, d2, d3] => { results := [.lit (.bool true)], args := [d1, d2, d3] }
  | _ => none }
def linkImportsRow : OpenClaim := { program := "ytiphindialkmnaadoor", sum := "43e60ea9a050f9be24fa2a931382dde2ee1f4f679d2d511f2fa87dd85f10e8a1", func := "budwood/budwoodlaw16.LinkImports", spec := "linkImports", inPlace := ["internal/bytealg.IndexByteString", "internal/bytealg.IndexString"], unfollowed := true, recurses := true, named := ["internal/bytealg.MaxLen", "unicode/utf8.first", "unicode/utf8.acceptRanges"], plainKeys := false, apart := false, laid := [("unicode/utf8.acceptRanges", laid_unicode_utf8_acceptRanges), ("unicode/utf8.first", laid_unicode_utf8_first)] }
def LinkImportsSaid : Prop := linkImportsRow.holds Tryd.pinned (OpenSpec.ofChange linkImportsSpec)

/-- ITS FALSE NEIGHBOUR: 'it returns false'. Refute it at one input. -/
def linkImportsWrong : ChangeSpec := { name := "linkImports", fn := fun _ => fun
  | [d1, d2, d3] => { results := [.lit (.bool false)], args := [d1, d2, d3] }
  | _ => none }
def LinkImportsWrongFalsely : Prop := linkImportsRow.holds Tryd.pinned (OpenSpec.ofChange linkImportsWrong)

/- THE SECOND FORM. 'bulk': how many values and letters a reading holds, each counted each time it is reached (what is shared counts as often as it is met; a slice's spare places count too). A statement '..UptoSaid' is the law's where the arguments, and the package variables that the reading takes, are together of bulk at most 1048576: NARROWER than '..Said'. Prove '..Said' where nothing that the law and all that it calls make is longer than what came in: it says more and counts as full. Else prove '..UptoSaid'. A law counts once. -/
mutual
def uptoBulk {H : Type} : DataW H → Nat
  | .lit (.string bytes) => bytes.length + 1
  | .lit _ => 1
  | .nil => 1
  | .ptr d => uptoBulk d + 1
  | .slice elems spare => uptoBulkAll elems + uptoBulkAll spare + 1
  | .agg parts => uptoBulkAll parts + 1
  | .iface _ d => uptoBulk d + 1
  | .map entries => uptoBulkEntries entries + 1
  | .held _ => 1
def uptoBulkAll {H : Type} : List (DataW H) → Nat
  | [] => 0
  | d :: r => uptoBulk d + uptoBulkAll r
def uptoBulkEntries {H : Type} : List (Lit × DataW H) → Nat
  | [] => 0
  | x :: r => uptoBulkEntry x + uptoBulkEntries r
def uptoBulkEntry {H : Type} : Lit × DataW H → Nat
  | (.string bytes, d) => bytes.length + uptoBulk d + 1
  | (_, d) => uptoBulk d + 1
 end
def uptoSmall : (H : Type) → List (DataW H) → Bool := fun _ ds => decide (uptoBulkAll ds ≤ 1048576)
def OpenSpec.upto (s : _root_.Go.ChangeSpec) : _root_.Go.OpenSpec := { _root_.Go.OpenSpec.ofChange s with cond := some uptoSmall }

/-- 'budwoodlaw11.ValidModules', WHERE WHAT IT READS IS OF BULK AT MOST 1048576: true; the input reads as it did. -/
def validModulesUptoRow : OpenClaim := { program := "ytiphindialkmnaadoor", sum := "43e60ea9a050f9be24fa2a931382dde2ee1f4f679d2d511f2fa87dd85f10e8a1", func := "budwood/budwoodlaw11.ValidModules", spec := "validModules", inPlace := ["internal/bytealg.IndexByteString", "internal/bytealg.IndexString"], unfollowed := true, recurses := true, named := ["internal/bytealg.MaxLen", "unicode/utf8.first", "unicode/utf8.acceptRanges"], plainKeys := false, apart := false, laid := [("unicode/utf8.acceptRanges", laid_unicode_utf8_acceptRanges), ("unicode/utf8.first", laid_unicode_utf8_first)], narrowed := true }
def ValidModulesUptoSaid : Prop := validModulesUptoRow.holds Tryd.pinned (OpenSpec.upto validModulesSpec)

/-- 'budwoodlaw11.ValidCalls', WHERE WHAT IT READS IS OF BULK AT MOST 1048576: true; the input reads as it did. -/
def validCallsUptoRow : OpenClaim := { program := "ytiphindialkmnaadoor", sum := "43e60ea9a050f9be24fa2a931382dde2ee1f4f679d2d511f2fa87dd85f10e8a1", func := "budwood/budwoodlaw11.ValidCalls", spec := "validCalls", inPlace := ["internal/bytealg.IndexByteString", "internal/bytealg.IndexString"], unfollowed := true, recurses := true, named := ["internal/bytealg.MaxLen", "unicode/utf8.first", "unicode/utf8.acceptRanges"], plainKeys := false, apart := false, laid := [("unicode/utf8.acceptRanges", laid_unicode_utf8_acceptRanges), ("unicode/utf8.first", laid_unicode_utf8_first)], narrowed := true }
def ValidCallsUptoSaid : Prop := validCallsUptoRow.holds Tryd.pinned (OpenSpec.upto validCallsSpec)

/-- 'budwoodlaw11.ValidLess', WHERE WHAT IT READS IS OF BULK AT MOST 1048576: true; the input reads as it did. -/
def validLessUptoRow : OpenClaim := { program := "ytiphindialkmnaadoor", sum := "43e60ea9a050f9be24fa2a931382dde2ee1f4f679d2d511f2fa87dd85f10e8a1", func := "budwood/budwoodlaw11.ValidLess", spec := "validLess", inPlace := ["internal/bytealg.IndexByteString", "internal/bytealg.IndexString"], unfollowed := true, recurses := true, named := ["internal/bytealg.MaxLen", "unicode/utf8.first", "unicode/utf8.acceptRanges"], plainKeys := false, apart := false, laid := [("unicode/utf8.acceptRanges", laid_unicode_utf8_acceptRanges), ("unicode/utf8.first", laid_unicode_utf8_first)], narrowed := true }
def ValidLessUptoSaid : Prop := validLessUptoRow.holds Tryd.pinned (OpenSpec.upto validLessSpec)

/-- 'budwoodlaw11.ValidMore', WHERE WHAT IT READS IS OF BULK AT MOST 1048576: true; the input reads as it did. -/
def validMoreUptoRow : OpenClaim := { program := "ytiphindialkmnaadoor", sum := "43e60ea9a050f9be24fa2a931382dde2ee1f4f679d2d511f2fa87dd85f10e8a1", func := "budwood/budwoodlaw11.ValidMore", spec := "validMore", inPlace := ["internal/bytealg.IndexByteString", "internal/bytealg.IndexString"], unfollowed := true, recurses := true, named := ["internal/bytealg.MaxLen", "unicode/utf8.first", "unicode/utf8.acceptRanges"], plainKeys := false, apart := false, laid := [("unicode/utf8.acceptRanges", laid_unicode_utf8_acceptRanges), ("unicode/utf8.first", laid_unicode_utf8_first)], narrowed := true }
def ValidMoreUptoSaid : Prop := validMoreUptoRow.holds Tryd.pinned (OpenSpec.upto validMoreSpec)

/-- 'budwoodlaw11.ValidTwice', WHERE WHAT IT READS IS OF BULK AT MOST 1048576: true; the input reads as it did. -/
def validTwiceUptoRow : OpenClaim := { program := "ytiphindialkmnaadoor", sum := "43e60ea9a050f9be24fa2a931382dde2ee1f4f679d2d511f2fa87dd85f10e8a1", func := "budwood/budwoodlaw11.ValidTwice", spec := "validTwice", inPlace := ["internal/bytealg.IndexByteString", "internal/bytealg.IndexString"], unfollowed := true, recurses := true, named := ["internal/bytealg.MaxLen", "unicode/utf8.first", "unicode/utf8.acceptRanges"], plainKeys := false, apart := false, laid := [("unicode/utf8.acceptRanges", laid_unicode_utf8_acceptRanges), ("unicode/utf8.first", laid_unicode_utf8_first)], narrowed := true }
def ValidTwiceUptoSaid : Prop := validTwiceUptoRow.holds Tryd.pinned (OpenSpec.upto validTwiceSpec)

/-- 'budwoodlaw16.LinkResolves', WHERE WHAT IT READS IS OF BULK AT MOST 1048576: true; the input reads as it did. -/
def linkResolvesUptoRow : OpenClaim := { program := "ytiphindialkmnaadoor", sum := "43e60ea9a050f9be24fa2a931382dde2ee1f4f679d2d511f2fa87dd85f10e8a1", func := "budwood/budwoodlaw16.LinkResolves", spec := "linkResolves", inPlace := ["internal/bytealg.IndexByteString", "internal/bytealg.IndexString"], unfollowed := true, recurses := true, named := ["internal/bytealg.MaxLen", "unicode/utf8.first", "unicode/utf8.acceptRanges"], plainKeys := false, apart := false, laid := [("unicode/utf8.acceptRanges", laid_unicode_utf8_acceptRanges), ("unicode/utf8.first", laid_unicode_utf8_first)], narrowed := true }
def LinkResolvesUptoSaid : Prop := linkResolvesUptoRow.holds Tryd.pinned (OpenSpec.upto linkResolvesSpec)

/-- 'budwoodlaw11.ValidPatches', WHERE WHAT IT READS IS OF BULK AT MOST 1048576: true; the input reads as it did. -/
def validPatchesUptoRow : OpenClaim := { program := "ytiphindialkmnaadoor", sum := "43e60ea9a050f9be24fa2a931382dde2ee1f4f679d2d511f2fa87dd85f10e8a1", func := "budwood/budwoodlaw11.ValidPatches", spec := "validPatches", inPlace := ["internal/bytealg.IndexByteString", "internal/bytealg.IndexString"], unfollowed := true, recurses := true, named := ["internal/bytealg.MaxLen", "unicode/utf8.first", "unicode/utf8.acceptRanges"], plainKeys := false, apart := false, laid := [("unicode/utf8.acceptRanges", laid_unicode_utf8_acceptRanges), ("unicode/utf8.first", laid_unicode_utf8_first)], narrowed := true }
def ValidPatchesUptoSaid : Prop := validPatchesUptoRow.holds Tryd.pinned (OpenSpec.upto validPatchesSpec)

/-- 'budwoodlaw16.LinkOnly', WHERE WHAT IT READS IS OF BULK AT MOST 1048576: true; the input reads as it did. -/
def linkOnlyUptoRow : OpenClaim := { program := "ytiphindialkmnaadoor", sum := "43e60ea9a050f9be24fa2a931382dde2ee1f4f679d2d511f2fa87dd85f10e8a1", func := "budwood/budwoodlaw16.LinkOnly", spec := "linkOnly", inPlace := ["internal/bytealg.IndexByteString", "internal/bytealg.IndexString"], unfollowed := true, recurses := true, named := ["internal/bytealg.MaxLen", "unicode/utf8.first", "unicode/utf8.acceptRanges"], plainKeys := false, apart := false, laid := [("unicode/utf8.acceptRanges", laid_unicode_utf8_acceptRanges), ("unicode/utf8.first", laid_unicode_utf8_first)], narrowed := true }
def LinkOnlyUptoSaid : Prop := linkOnlyUptoRow.holds Tryd.pinned (OpenSpec.upto linkOnlySpec)

/-- 'budwoodlaw16.LinkMoves', WHERE WHAT IT READS IS OF BULK AT MOST 1048576: true; the input reads as it did. -/
def linkMovesUptoRow : OpenClaim := { program := "ytiphindialkmnaadoor", sum := "43e60ea9a050f9be24fa2a931382dde2ee1f4f679d2d511f2fa87dd85f10e8a1", func := "budwood/budwoodlaw16.LinkMoves", spec := "linkMoves", inPlace := ["internal/bytealg.IndexByteString", "internal/bytealg.IndexString"], unfollowed := true, recurses := true, named := ["internal/bytealg.MaxLen", "unicode/utf8.first", "unicode/utf8.acceptRanges"], plainKeys := false, apart := false, laid := [("unicode/utf8.acceptRanges", laid_unicode_utf8_acceptRanges), ("unicode/utf8.first", laid_unicode_utf8_first)], narrowed := true }
def LinkMovesUptoSaid : Prop := linkMovesUptoRow.holds Tryd.pinned (OpenSpec.upto linkMovesSpec)

/-- 'budwoodlaw16.LinkImports', WHERE WHAT IT READS IS OF BULK AT MOST 1048576: true; the input reads as it did. -/
def linkImportsUptoRow : OpenClaim := { program := "ytiphindialkmnaadoor", sum := "43e60ea9a050f9be24fa2a931382dde2ee1f4f679d2d511f2fa87dd85f10e8a1", func := "budwood/budwoodlaw16.LinkImports", spec := "linkImports", inPlace := ["internal/bytealg.IndexByteString", "internal/bytealg.IndexString"], unfollowed := true, recurses := true, named := ["internal/bytealg.MaxLen", "unicode/utf8.first", "unicode/utf8.acceptRanges"], plainKeys := false, apart := false, laid := [("unicode/utf8.acceptRanges", laid_unicode_utf8_acceptRanges), ("unicode/utf8.first", laid_unicode_utf8_first)], narrowed := true }
def LinkImportsUptoSaid : Prop := linkImportsUptoRow.holds Tryd.pinned (OpenSpec.upto linkImportsSpec)

end Rows
end Go.Proofs.YtiphindialkmnaaDoor
