/-
  NARROWER THAN 'FOR EVERY INPUT', by the rows' own cells (each row's printed sentence says how): CharsetSets: laid · CharsetMaps: laid · CharsetRows: laid · CharsetFinals: laid · CharsetHolds: laid.
  DERIVED. THE GIVEN ROWS OF THIS SEAT. 5 by the template 'for every input the law returns true; each argument reads behind the call as it read before'; 0 by the template 'total and deterministic' (their statements: YtbnljecooaglgaaDoorTotals.lean).
  GIVEN WITH THE SEED: the statements are not yours to turn. If you find one false, say at which input.
  Laid BY PROGRAM, IN A SANDBOX (cutbox-rows.mjs): the forced cells as the released guide's own fill.sh prints them over the translation 02e01d4bbe1c5f7d… (all of the seat's roots in one cut). By AI agents, Wed Nov 11 2026. No macro, syntax, notation, axiom, sorry.
-/
import Derived.Test.YtbnljecooaglgaaDoorChecked
import GoSem.Claim
import GoSem.ClaimJoined
import GoSem.ClaimMapViews
import Derived.JoinedTies
import Derived.KernelRfl
namespace Go.Proofs.YtbnljecooaglgaaDoor
/- THE CELL 'sum', in the pinned program and in every row, IS THE sha256 OF THE DUMP (.gsa) THAT YtbnljecooaglgaaDoorProg.lean LOADS. Nothing in Lean hashes anything: it is a label: what it is worth is what the hold of that sum in a sandbox is worth. -/
noncomputable def Tryd.pinned : Pinned := { name := "ytbnljecooaglgaadoor", sum := "02e01d4bbe1c5f7d4be4a596353f2ded3d3b704d2bdf2391038fa9820daabd4c", checked := Tryd.checked }
namespace Rows
def none {H : Type} : Left H := { results := [], args := [] }

/- WHAT THE LISTED PACKAGE-LEVEL VARIABLES READ AS WHEN THE CALL BEGINS. Each datum BY PROGRAM (the guide's laid-datum.mjs) off the statement by which the dump's own 'gosem.cut.vars' lays the variable. In a bare row this is a premise. The card (YtbnljecooaglgaaDoorCards.lean) ties it to the program's text. -/
def laid_scrollback_charset_lines {H : Type} : DataW H := .agg [.lit (.int .i32 160), .lit (.int .i32 9670), .lit (.int .i32 9618), .lit (.int .i32 9225), .lit (.int .i32 9228), .lit (.int .i32 9229), .lit (.int .i32 9226), .lit (.int .i32 176), .lit (.int .i32 177), .lit (.int .i32 9252), .lit (.int .i32 9227), .lit (.int .i32 9496), .lit (.int .i32 9488), .lit (.int .i32 9484), .lit (.int .i32 9492), .lit (.int .i32 9532), .lit (.int .i32 9146), .lit (.int .i32 9147), .lit (.int .i32 9472), .lit (.int .i32 9148), .lit (.int .i32 9149), .lit (.int .i32 9500), .lit (.int .i32 9508), .lit (.int .i32 9524), .lit (.int .i32 9516), .lit (.int .i32 9474), .lit (.int .i32 8804), .lit (.int .i32 8805), .lit (.int .i32 960), .lit (.int .i32 8800), .lit (.int .i32 163), .lit (.int .i32 183)]
def laid_scrollback_charset_finals {H : Type} : DataW H := .agg [.lit (.int .i32 66), .lit (.int .i32 48)]

/-- 'scrollbacklaw13.CharsetSets': WHATEVER THE INPUT: true; the input reads as it did. -/
def charsetSetsSpec : ChangeSpec := { name := "charsetSets", fn := fun _ => fun
  | [d1, d2, d3] => { results := [.lit (.bool true)], args := [d1, d2, d3] }
  | _ => none }
def charsetSetsRow : OpenClaim := { program := "ytbnljecooaglgaadoor", sum := "02e01d4bbe1c5f7d4be4a596353f2ded3d3b704d2bdf2391038fa9820daabd4c", func := "scrollback/scrollbacklaw13.CharsetSets", spec := "charsetSets", named := ["scrollback/charset.lines", "scrollback/charset.finals"], apart := false, laid := [("scrollback/charset.lines", laid_scrollback_charset_lines), ("scrollback/charset.finals", laid_scrollback_charset_finals)] }
def CharsetSetsSaid : Prop := charsetSetsRow.holds Tryd.pinned (OpenSpec.ofChange charsetSetsSpec)

/-- ITS FALSE NEIGHBOUR: 'it returns false'. Refute it at one input. -/
def charsetSetsWrong : ChangeSpec := { name := "charsetSets", fn := fun _ => fun
  | [d1, d2, d3] => { results := [.lit (.bool false)], args := [d1, d2, d3] }
  | _ => none }
def CharsetSetsWrongFalsely : Prop := charsetSetsRow.holds Tryd.pinned (OpenSpec.ofChange charsetSetsWrong)

/-- 'scrollbacklaw13.CharsetMaps': WHATEVER THE INPUT: true; the input reads as it did. -/
def charsetMapsSpec : ChangeSpec := { name := "charsetMaps", fn := fun _ => fun
  | [d1, d2] => { results := [.lit (.bool true)], args := [d1, d2] }
  | _ => none }
def charsetMapsRow : OpenClaim := { program := "ytbnljecooaglgaadoor", sum := "02e01d4bbe1c5f7d4be4a596353f2ded3d3b704d2bdf2391038fa9820daabd4c", func := "scrollback/scrollbacklaw13.CharsetMaps", spec := "charsetMaps", named := ["scrollback/charset.lines", "scrollback/charset.finals"], apart := false, laid := [("scrollback/charset.lines", laid_scrollback_charset_lines), ("scrollback/charset.finals", laid_scrollback_charset_finals)] }
def CharsetMapsSaid : Prop := charsetMapsRow.holds Tryd.pinned (OpenSpec.ofChange charsetMapsSpec)

/-- ITS FALSE NEIGHBOUR: 'it returns false'. Refute it at one input. -/
def charsetMapsWrong : ChangeSpec := { name := "charsetMaps", fn := fun _ => fun
  | [d1, d2] => { results := [.lit (.bool false)], args := [d1, d2] }
  | _ => none }
def CharsetMapsWrongFalsely : Prop := charsetMapsRow.holds Tryd.pinned (OpenSpec.ofChange charsetMapsWrong)

/-- 'scrollbacklaw13.CharsetRows': WHATEVER THE INPUT: true; the input reads as it did. -/
def charsetRowsSpec : ChangeSpec := { name := "charsetRows", fn := fun _ => fun
  | [d] => { results := [.lit (.bool true)], args := [d] }
  | _ => none }
def charsetRowsRow : OpenClaim := { program := "ytbnljecooaglgaadoor", sum := "02e01d4bbe1c5f7d4be4a596353f2ded3d3b704d2bdf2391038fa9820daabd4c", func := "scrollback/scrollbacklaw13.CharsetRows", spec := "charsetRows", named := ["scrollback/charset.lines", "scrollback/charset.finals"], apart := false, laid := [("scrollback/charset.lines", laid_scrollback_charset_lines), ("scrollback/charset.finals", laid_scrollback_charset_finals)] }
def CharsetRowsSaid : Prop := charsetRowsRow.holds Tryd.pinned (OpenSpec.ofChange charsetRowsSpec)

/-- ITS FALSE NEIGHBOUR: 'it returns false'. Refute it at one input. -/
def charsetRowsWrong : ChangeSpec := { name := "charsetRows", fn := fun _ => fun
  | [d] => { results := [.lit (.bool false)], args := [d] }
  | _ => none }
def CharsetRowsWrongFalsely : Prop := charsetRowsRow.holds Tryd.pinned (OpenSpec.ofChange charsetRowsWrong)

/-- 'scrollbacklaw13.CharsetFinals': WHATEVER THE INPUT: true; the input reads as it did. -/
def charsetFinalsSpec : ChangeSpec := { name := "charsetFinals", fn := fun _ => fun
  | [d1, d2] => { results := [.lit (.bool true)], args := [d1, d2] }
  | _ => none }
def charsetFinalsRow : OpenClaim := { program := "ytbnljecooaglgaadoor", sum := "02e01d4bbe1c5f7d4be4a596353f2ded3d3b704d2bdf2391038fa9820daabd4c", func := "scrollback/scrollbacklaw13.CharsetFinals", spec := "charsetFinals", named := ["scrollback/charset.finals", "scrollback/charset.lines"], apart := false, laid := [("scrollback/charset.lines", laid_scrollback_charset_lines), ("scrollback/charset.finals", laid_scrollback_charset_finals)] }
def CharsetFinalsSaid : Prop := charsetFinalsRow.holds Tryd.pinned (OpenSpec.ofChange charsetFinalsSpec)

/-- ITS FALSE NEIGHBOUR: 'it returns false'. Refute it at one input. -/
def charsetFinalsWrong : ChangeSpec := { name := "charsetFinals", fn := fun _ => fun
  | [d1, d2] => { results := [.lit (.bool false)], args := [d1, d2] }
  | _ => none }
def CharsetFinalsWrongFalsely : Prop := charsetFinalsRow.holds Tryd.pinned (OpenSpec.ofChange charsetFinalsWrong)

/-- 'scrollbacklaw13.CharsetHolds': WHATEVER THE INPUT: true; the input reads as it did. -/
def charsetHoldsSpec : ChangeSpec := { name := "charsetHolds", fn := fun _ => fun
  | [d1, d2, d3, d4] => { results := [.lit (.bool true)], args := [d1, d2, d3, d4] }
  | _ => none }
def charsetHoldsRow : OpenClaim := { program := "ytbnljecooaglgaadoor", sum := "02e01d4bbe1c5f7d4be4a596353f2ded3d3b704d2bdf2391038fa9820daabd4c", func := "scrollback/scrollbacklaw13.CharsetHolds", spec := "charsetHolds", named := ["scrollback/charset.lines", "scrollback/charset.finals"], apart := false, laid := [("scrollback/charset.lines", laid_scrollback_charset_lines), ("scrollback/charset.finals", laid_scrollback_charset_finals)] }
def CharsetHoldsSaid : Prop := charsetHoldsRow.holds Tryd.pinned (OpenSpec.ofChange charsetHoldsSpec)

/-- ITS FALSE NEIGHBOUR: 'it returns false'. Refute it at one input. -/
def charsetHoldsWrong : ChangeSpec := { name := "charsetHolds", fn := fun _ => fun
  | [d1, d2, d3, d4] => { results := [.lit (.bool false)], args := [d1, d2, d3, d4] }
  | _ => none }
def CharsetHoldsWrongFalsely : Prop := charsetHoldsRow.holds Tryd.pinned (OpenSpec.ofChange charsetHoldsWrong)

/- THE SECOND FORM. 'bulk': how many values and letters a reading holds, each counted each time it is reached (what is shared counts as often as it is met; a slice's spare places count too). A statement '..UptoSaid' is the law's where the arguments, and the package variables that the reading takes, are together of bulk at most 1048576: NARROWER than '..Said'. Prove '..Said' where nothing that the law and all that it calls make is longer than what came in: it says more and counts as full. Else prove '..UptoSaid'. A law counts once. -/
mutual
def uptoBulk {H : Type} : DataW H → Nat
  | .lit (.string bytes) => bytes.length + 1
  | .lit _ => 1
  | .nil => 1
  | .ptr d => uptoBulk d + 1
  | .slice elems spare => uptoBulkAll elems + uptoBulkAll spare + 1
  | .agg parts => uptoBulkAll parts + 1
  | .iface _ d => uptoBulk d + 1
  | .map entries => uptoBulkEntries entries + 1
  | .held _ => 1
def uptoBulkAll {H : Type} : List (DataW H) → Nat
  | [] => 0
  | d :: r => uptoBulk d + uptoBulkAll r
def uptoBulkEntries {H : Type} : List (Lit × DataW H) → Nat
  | [] => 0
  | x :: r => uptoBulkEntry x + uptoBulkEntries r
def uptoBulkEntry {H : Type} : Lit × DataW H → Nat
  | (.string bytes, d) => bytes.length + uptoBulk d + 1
  | (_, d) => uptoBulk d + 1
 end
def uptoSmall : (H : Type) → List (DataW H) → Bool := fun _ ds => decide (uptoBulkAll ds ≤ 1048576)
def OpenSpec.upto (s : _root_.Go.ChangeSpec) : _root_.Go.OpenSpec := { _root_.Go.OpenSpec.ofChange s with cond := some uptoSmall }

/-- 'scrollbacklaw13.CharsetSets', WHERE WHAT IT READS IS OF BULK AT MOST 1048576: true; the input reads as it did. -/
def charsetSetsUptoRow : OpenClaim := { program := "ytbnljecooaglgaadoor", sum := "02e01d4bbe1c5f7d4be4a596353f2ded3d3b704d2bdf2391038fa9820daabd4c", func := "scrollback/scrollbacklaw13.CharsetSets", spec := "charsetSets", named := ["scrollback/charset.lines", "scrollback/charset.finals"], apart := false, laid := [("scrollback/charset.lines", laid_scrollback_charset_lines), ("scrollback/charset.finals", laid_scrollback_charset_finals)], narrowed := true }
def CharsetSetsUptoSaid : Prop := charsetSetsUptoRow.holds Tryd.pinned (OpenSpec.upto charsetSetsSpec)

/-- 'scrollbacklaw13.CharsetMaps', WHERE WHAT IT READS IS OF BULK AT MOST 1048576: true; the input reads as it did. -/
def charsetMapsUptoRow : OpenClaim := { program := "ytbnljecooaglgaadoor", sum := "02e01d4bbe1c5f7d4be4a596353f2ded3d3b704d2bdf2391038fa9820daabd4c", func := "scrollback/scrollbacklaw13.CharsetMaps", spec := "charsetMaps", named := ["scrollback/charset.lines", "scrollback/charset.finals"], apart := false, laid := [("scrollback/charset.lines", laid_scrollback_charset_lines), ("scrollback/charset.finals", laid_scrollback_charset_finals)], narrowed := true }
def CharsetMapsUptoSaid : Prop := charsetMapsUptoRow.holds Tryd.pinned (OpenSpec.upto charsetMapsSpec)

/-- 'scrollbacklaw13.CharsetRows', WHERE WHAT IT READS IS OF BULK AT MOST 1048576: true; the input reads as it did. -/
def charsetRowsUptoRow : OpenClaim := { program := "ytbnljecooaglgaadoor", sum := "02e01d4bbe1c5f7d4be4a596353f2ded3d3b704d2bdf2391038fa9820daabd4c", func := "scrollback/scrollbacklaw13.CharsetRows", spec := "charsetRows", named := ["scrollback/charset.lines", "scrollback/charset.finals"], apart := false, laid := [("scrollback/charset.lines", laid_scrollback_charset_lines), ("scrollback/charset.finals", laid_scrollback_charset_finals)], narrowed := true }
def CharsetRowsUptoSaid : Prop := charsetRowsUptoRow.holds Tryd.pinned (OpenSpec.upto charsetRowsSpec)

/-- 'scrollbacklaw13.CharsetFinals', WHERE WHAT IT READS IS OF BULK AT MOST 1048576: true; the input reads as it did. -/
def charsetFinalsUptoRow : OpenClaim := { program := "ytbnljecooaglgaadoor", sum := "02e01d4bbe1c5f7d4be4a596353f2ded3d3b704d2bdf2391038fa9820daabd4c", func := "scrollback/scrollbacklaw13.CharsetFinals", spec := "charsetFinals", named := ["scrollback/charset.finals", "scrollback/charset.lines"], apart := false, laid := [("scrollback/charset.lines", laid_scrollback_charset_lines), ("scrollback/charset.finals", laid_scrollback_charset_finals)], narrowed := true }
def CharsetFinalsUptoSaid : Prop := charsetFinalsUptoRow.holds Tryd.pinned (OpenSpec.upto charsetFinalsSpec)

/-- 'scrollbacklaw13.CharsetHolds', WHERE WHAT IT READS IS OF BULK AT MOST 1048576: true; the input reads as it did. -/
def charsetHoldsUptoRow : OpenClaim := { program := "ytbnljecooaglgaadoor", sum := "02e01d4bbe1c5f7d4be4a596353f2ded3d3b704d2bdf2391038fa9820daabd4c", func := "scrollback/scrollbacklaw13.CharsetHolds", spec := "charsetHolds", named := ["scrollback/charset.lines", "scrollback/charset.finals"], apart := false, laid := [("scrollback/charset.lines", laid_scrollback_charset_lines), ("scrollback/charset.finals", laid_scrollback_charset_finals)], narrowed := true }
def CharsetHoldsUptoSaid : Prop := charsetHoldsUptoRow.holds Tryd.pinned (OpenSpec.upto charsetHoldsSpec)

end Rows
end Go.Proofs.YtbnljecooaglgaaDoor
