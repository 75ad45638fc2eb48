/-
  NARROWER THAN 'FOR EVERY INPUT', by the rows' own cells (each row's printed sentence says how): ExpandKnown: laid.
  DERIVED. THE GIVEN ROWS OF THIS SEAT. 1 by the template 'for every input the law returns true; each argument reads behind the call as it read before'; 0 by the template 'total and deterministic' (their statements: YtccedlpflmmjjaaGreatDoorTotals.lean).
  GIVEN WITH THE SEED: the statements are not yours to turn. If you find one false, say at which input.
  Laid BY PROGRAM, IN A SANDBOX (cutbox-rows.mjs): the forced cells as the released guide's own fill.sh prints them over the translation 2d6e3bb89ebc0d23… (all of the seat's roots in one cut). By AI agents, Wed Nov 11 2026. No macro, syntax, notation, axiom, sorry.
-/
import Derived.Test.YtccedlpflmmjjaaGreatDoorChecked
import GoSem.PinnedTables
import GoSem.Claim
import GoSem.ClaimJoined
import GoSem.ClaimMapViews
import Derived.JoinedTies
import Derived.KernelRfl
namespace Go.Proofs.YtccedlpflmmjjaaGreatDoor
/- THE CELL 'sum', in the pinned program and in every row, IS THE sha256 OF THE DUMP (.gsa) THAT YtccedlpflmmjjaaGreatDoorProg.lean LOADS. Nothing in Lean hashes anything: it is a label: what it is worth is what the hold of that sum in a sandbox is worth. -/
noncomputable def Tryz.pinned : Pinned := { name := "ytccedlpflmmjjaagreatdoor", sum := "2d6e3bb89ebc0d2300e5878ad35327e3351d01b0538efdb95912df7ab864f8c2", checked := Tryz.checked }
namespace Rows
def none {H : Type} : Left H := { results := [], args := [] }

/- WHAT THE LISTED PACKAGE-LEVEL VARIABLES READ AS WHEN THE CALL BEGINS. Each datum BY PROGRAM (the guide's laid-datum.mjs) off the statement by which the dump's own 'gosem.cut.vars' lays the variable. In a bare row this is a premise. The card (YtccedlpflmmjjaaGreatDoorCards.lean) ties it to the program's text. -/
def laid_unicode_utf8_acceptRanges {H : Type} : DataW H := .agg [.agg [.lit (.int .u8 128), .lit (.int .u8 191)], .agg [.lit (.int .u8 160), .lit (.int .u8 191)], .agg [.lit (.int .u8 128), .lit (.int .u8 159)], .agg [.lit (.int .u8 144), .lit (.int .u8 191)], .agg [.lit (.int .u8 128), .lit (.int .u8 143)], .agg [.lit (.int .u8 0), .lit (.int .u8 0)], .agg [.lit (.int .u8 0), .lit (.int .u8 0)], .agg [.lit (.int .u8 0), .lit (.int .u8 0)], .agg [.lit (.int .u8 0), .lit (.int .u8 0)], .agg [.lit (.int .u8 0), .lit (.int .u8 0)], .agg [.lit (.int .u8 0), .lit (.int .u8 0)], .agg [.lit (.int .u8 0), .lit (.int .u8 0)], .agg [.lit (.int .u8 0), .lit (.int .u8 0)], .agg [.lit (.int .u8 0), .lit (.int .u8 0)], .agg [.lit (.int .u8 0), .lit (.int .u8 0)], .agg [.lit (.int .u8 0), .lit (.int .u8 0)]]
def laid_errors_errorType {H : Type} : DataW H := .iface "internal/reflectlite.rtype" (.agg [.ptr (.lit (.string [101, 114, 114, 111, 114]))])
def laid_mummer_forms_table {H : Type} : DataW H := .agg [.agg [.lit (.string []), .lit (.int .i64 0), .lit (.int .i64 0)], .agg [.lit (.string [108, 97, 109, 98, 100, 97]), .lit (.int .i64 2), .lit (.int .i64 1073741824)], .agg [.lit (.string [108, 101, 116]), .lit (.int .i64 2), .lit (.int .i64 1073741824)], .agg [.lit (.string [108, 101, 116, 42]), .lit (.int .i64 2), .lit (.int .i64 1073741824)], .agg [.lit (.string [108, 101, 116, 114, 101, 99]), .lit (.int .i64 2), .lit (.int .i64 1073741824)], .agg [.lit (.string [105, 102]), .lit (.int .i64 3), .lit (.int .i64 3)], .agg [.lit (.string [99, 111, 110, 100]), .lit (.int .i64 1), .lit (.int .i64 1073741824)], .agg [.lit (.string [101, 108, 115, 101]), .lit (.int .i64 0), .lit (.int .i64 0)], .agg [.lit (.string [97, 110, 100]), .lit (.int .i64 0), .lit (.int .i64 1073741824)], .agg [.lit (.string [111, 114]), .lit (.int .i64 0), .lit (.int .i64 1073741824)], .agg [.lit (.string [119, 104, 101, 110]), .lit (.int .i64 2), .lit (.int .i64 1073741824)], .agg [.lit (.string [117, 110, 108, 101, 115, 115]), .lit (.int .i64 2), .lit (.int .i64 1073741824)], .agg [.lit (.string [98, 101, 103, 105, 110]), .lit (.int .i64 1), .lit (.int .i64 1073741824)], .agg [.lit (.string [108, 105, 115, 116]), .lit (.int .i64 0), .lit (.int .i64 1073741824)], .agg [.lit (.string [113, 117, 111, 116, 101]), .lit (.int .i64 1), .lit (.int .i64 1)], .agg [.lit (.string [100, 101, 102, 105, 110, 101]), .lit (.int .i64 2), .lit (.int .i64 1073741824)], .agg [.lit (.string [100, 101, 102, 105, 110, 101, 45, 115, 121, 110, 116, 97, 120]), .lit (.int .i64 2), .lit (.int .i64 2)], .agg [.lit (.string [108, 101, 116, 45, 115, 121, 110, 116, 97, 120]), .lit (.int .i64 2), .lit (.int .i64 1073741824)], .agg [.lit (.string [115, 121, 110, 116, 97, 120, 45, 114, 117, 108, 101, 115]), .lit (.int .i64 1), .lit (.int .i64 21)]]
/-- One of Go's own tables, pinned by name: the form's constant. -/
def laid_unicode_utf8_first : DataW Unit := Go.Pinned.utf8First

/-- 'mummerlaw19.ExpandKnown': WHATEVER THE INPUT: true; the input reads as it did. -/
def expandKnownSpec : ChangeSpec := { name := "expandKnown", fn := fun _ => fun
  | [] => { results := [.lit (.bool true)], args := [] }
  | _ => none }
def expandKnownRow : OpenClaim := { program := "ytccedlpflmmjjaagreatdoor", sum := "2d6e3bb89ebc0d2300e5878ad35327e3351d01b0538efdb95912df7ab864f8c2", func := "mummer/mummerlaw19.ExpandKnown", spec := "expandKnown", inPlace := ["internal/bytealg.IndexByteString", "internal/bytealg.IndexString", "slices.overlaps[int]", "internal/reflectlite.TypeOf", "internal/reflectlite.ValueOf", "(internal/reflectlite.Value).Type", "(internal/reflectlite.Value).IsNil", "(internal/reflectlite.Value).Elem", "(internal/reflectlite.Value).Set"], unfollowed := true, recurses := true, named := ["mummer/forms.table", "unicode/utf8.first", "unicode/utf8.acceptRanges", "errors.errorType", "internal/bytealg.MaxLen"], plainKeys := false, apart := false, laid := [("unicode/utf8.acceptRanges", laid_unicode_utf8_acceptRanges), ("errors.errorType", laid_errors_errorType), ("mummer/forms.table", laid_mummer_forms_table), ("unicode/utf8.first", laid_unicode_utf8_first)] }
def ExpandKnownSaid : Prop := expandKnownRow.holds Tryz.pinned (OpenSpec.ofChange expandKnownSpec)

/-- ITS FALSE NEIGHBOUR: 'it returns false'. Refute it at one input. -/
def expandKnownWrong : ChangeSpec := { name := "expandKnown", fn := fun _ => fun
  | [] => { results := [.lit (.bool false)], args := [] }
  | _ => none }
def ExpandKnownWrongFalsely : Prop := expandKnownRow.holds Tryz.pinned (OpenSpec.ofChange expandKnownWrong)

/- THE SECOND FORM. 'bulk': how many values and letters a reading holds, each counted each time it is reached (what is shared counts as often as it is met; a slice's spare places count too). A statement '..UptoSaid' is the law's where the arguments, and the package variables that the reading takes, are together of bulk at most 1048576: NARROWER than '..Said'. Prove '..Said' where nothing that the law and all that it calls make is longer than what came in: it says more and counts as full. Else prove '..UptoSaid'. A law counts once. -/
mutual
def uptoBulk {H : Type} : DataW H → Nat
  | .lit (.string bytes) => bytes.length + 1
  | .lit _ => 1
  | .nil => 1
  | .ptr d => uptoBulk d + 1
  | .slice elems spare => uptoBulkAll elems + uptoBulkAll spare + 1
  | .agg parts => uptoBulkAll parts + 1
  | .iface _ d => uptoBulk d + 1
  | .map entries => uptoBulkEntries entries + 1
  | .held _ => 1
def uptoBulkAll {H : Type} : List (DataW H) → Nat
  | [] => 0
  | d :: r => uptoBulk d + uptoBulkAll r
def uptoBulkEntries {H : Type} : List (Lit × DataW H) → Nat
  | [] => 0
  | x :: r => uptoBulkEntry x + uptoBulkEntries r
def uptoBulkEntry {H : Type} : Lit × DataW H → Nat
  | (.string bytes, d) => bytes.length + uptoBulk d + 1
  | (_, d) => uptoBulk d + 1
 end
def uptoSmall : (H : Type) → List (DataW H) → Bool := fun _ ds => decide (uptoBulkAll ds ≤ 1048576)
def OpenSpec.upto (s : _root_.Go.ChangeSpec) : _root_.Go.OpenSpec := { _root_.Go.OpenSpec.ofChange s with cond := some uptoSmall }

/-- 'mummerlaw19.ExpandKnown', WHERE WHAT IT READS IS OF BULK AT MOST 1048576: true; the input reads as it did. -/
def expandKnownUptoRow : OpenClaim := { program := "ytccedlpflmmjjaagreatdoor", sum := "2d6e3bb89ebc0d2300e5878ad35327e3351d01b0538efdb95912df7ab864f8c2", func := "mummer/mummerlaw19.ExpandKnown", spec := "expandKnown", inPlace := ["internal/bytealg.IndexByteString", "internal/bytealg.IndexString", "slices.overlaps[int]", "internal/reflectlite.TypeOf", "internal/reflectlite.ValueOf", "(internal/reflectlite.Value).Type", "(internal/reflectlite.Value).IsNil", "(internal/reflectlite.Value).Elem", "(internal/reflectlite.Value).Set"], unfollowed := true, recurses := true, named := ["mummer/forms.table", "unicode/utf8.first", "unicode/utf8.acceptRanges", "errors.errorType", "internal/bytealg.MaxLen"], plainKeys := false, apart := false, laid := [("unicode/utf8.acceptRanges", laid_unicode_utf8_acceptRanges), ("errors.errorType", laid_errors_errorType), ("mummer/forms.table", laid_mummer_forms_table), ("unicode/utf8.first", laid_unicode_utf8_first)], narrowed := true }
def ExpandKnownUptoSaid : Prop := expandKnownUptoRow.holds Tryz.pinned (OpenSpec.upto expandKnownSpec)

end Rows
end Go.Proofs.YtccedlpflmmjjaaGreatDoor
