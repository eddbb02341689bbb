/-
  NARROWER THAN 'FOR EVERY INPUT', by the rows' own cells (each row's printed sentence says how): WrapRows: laid · WrapPlaces: laid · WrapAll: laid · WrapLongs: laid · WrapHolds: laid · UnwrapLines: laid · UnwrapTexts: laid · UnwrapHolds: laid · UnwrapWraps: laid.
  DERIVED. THE GIVEN ROWS OF THIS SEAT. 9 by the template 'for every input the law returns true; each argument reads behind the call as it read before'; 0 by the template 'total and deterministic' (their statements: YtblpfelhgcggfaaDoorTotals.lean).
  GIVEN WITH THE SEED: the statements are not yours to turn. If you find one false, say at which input.
  Laid BY PROGRAM, IN A SANDBOX (cutbox-rows.mjs): the forced cells as the released guide's own fill.sh prints them over the translation e031e9cafcd1ca86… (all of the seat's roots in one cut). By AI agents, Wed Nov 11 2026. No macro, syntax, notation, axiom, sorry.
-/
import Derived.Test.YtblpfelhgcggfaaDoorChecked
import GoSem.Claim
import GoSem.ClaimJoined
import GoSem.ClaimMapViews
import Derived.JoinedTies
import Derived.KernelRfl
namespace Go.Proofs.YtblpfelhgcggfaaDoor
/- THE CELL 'sum', in the pinned program and in every row, IS THE sha256 OF THE DUMP (.gsa) THAT YtblpfelhgcggfaaDoorProg.lean LOADS. Nothing in Lean hashes anything: it is a label: what it is worth is what the hold of that sum in a sandbox is worth. -/
noncomputable def Tryd.pinned : Pinned := { name := "ytblpfelhgcggfaadoor", sum := "e031e9cafcd1ca86ae3d122cb64834a713b161a5d4dd753c7c9cb3f70aa9a0be", checked := Tryd.checked }
namespace Rows
def none {H : Type} : Left H := { results := [], args := [] }

/- WHAT THE LISTED PACKAGE-LEVEL VARIABLES READ AS WHEN THE CALL BEGINS. Each datum BY PROGRAM (the guide's laid-datum.mjs) off the statement by which the dump's own 'gosem.cut.vars' lays the variable. In a bare row this is a premise. The card (YtblpfelhgcggfaaDoorCards.lean) ties it to the program's text. -/
def laid_scrollback_width_marks {H : Type} : DataW H := .agg [.agg [.lit (.int .i32 768), .lit (.int .i32 879)], .agg [.lit (.int .i32 1155), .lit (.int .i32 1161)], .agg [.lit (.int .i32 1425), .lit (.int .i32 1469)], .agg [.lit (.int .i32 1552), .lit (.int .i32 1562)], .agg [.lit (.int .i32 1611), .lit (.int .i32 1631)], .agg [.lit (.int .i32 1750), .lit (.int .i32 1756)], .agg [.lit (.int .i32 3633), .lit (.int .i32 3633)], .agg [.lit (.int .i32 3636), .lit (.int .i32 3642)], .agg [.lit (.int .i32 3655), .lit (.int .i32 3662)], .agg [.lit (.int .i32 6832), .lit (.int .i32 6911)], .agg [.lit (.int .i32 7616), .lit (.int .i32 7679)], .agg [.lit (.int .i32 8203), .lit (.int .i32 8207)], .agg [.lit (.int .i32 8400), .lit (.int .i32 8447)], .agg [.lit (.int .i32 12330), .lit (.int .i32 12335)], .agg [.lit (.int .i32 12441), .lit (.int .i32 12442)], .agg [.lit (.int .i32 65024), .lit (.int .i32 65039)], .agg [.lit (.int .i32 65056), .lit (.int .i32 65071)], .agg [.lit (.int .i32 917760), .lit (.int .i32 917999)]]
def laid_scrollback_width_wide {H : Type} : DataW H := .agg [.agg [.lit (.int .i32 4352), .lit (.int .i32 4447)], .agg [.lit (.int .i32 9001), .lit (.int .i32 9002)], .agg [.lit (.int .i32 11904), .lit (.int .i32 12329)], .agg [.lit (.int .i32 12336), .lit (.int .i32 12350)], .agg [.lit (.int .i32 12353), .lit (.int .i32 12440)], .agg [.lit (.int .i32 12443), .lit (.int .i32 13311)], .agg [.lit (.int .i32 13312), .lit (.int .i32 19903)], .agg [.lit (.int .i32 19968), .lit (.int .i32 42191)], .agg [.lit (.int .i32 43360), .lit (.int .i32 43391)], .agg [.lit (.int .i32 44032), .lit (.int .i32 55203)], .agg [.lit (.int .i32 63744), .lit (.int .i32 64255)], .agg [.lit (.int .i32 65072), .lit (.int .i32 65135)], .agg [.lit (.int .i32 65280), .lit (.int .i32 65376)], .agg [.lit (.int .i32 65504), .lit (.int .i32 65510)], .agg [.lit (.int .i32 127744), .lit (.int .i32 128591)], .agg [.lit (.int .i32 128640), .lit (.int .i32 128767)], .agg [.lit (.int .i32 129280), .lit (.int .i32 129535)], .agg [.lit (.int .i32 131072), .lit (.int .i32 196605)], .agg [.lit (.int .i32 196608), .lit (.int .i32 262141)]]

/-- 'scrollbacklaw27.WrapRows': WHATEVER THE INPUT: true; the input reads as it did. -/
def wrapRowsSpec : ChangeSpec := { name := "wrapRows", fn := fun _ => fun
  | [d1, d2] => { results := [.lit (.bool true)], args := [d1, d2] }
  | _ => none }
def wrapRowsRow : OpenClaim := { program := "ytblpfelhgcggfaadoor", sum := "e031e9cafcd1ca86ae3d122cb64834a713b161a5d4dd753c7c9cb3f70aa9a0be", func := "scrollback/scrollbacklaw27.WrapRows", spec := "wrapRows", unfollowed := true, recurses := true, named := ["scrollback/width.marks", "scrollback/width.wide"], apart := false, laid := [("scrollback/width.marks", laid_scrollback_width_marks), ("scrollback/width.wide", laid_scrollback_width_wide)] }
def WrapRowsSaid : Prop := wrapRowsRow.holds Tryd.pinned (OpenSpec.ofChange wrapRowsSpec)

/-- ITS FALSE NEIGHBOUR: 'it returns false'. Refute it at one input. -/
def wrapRowsWrong : ChangeSpec := { name := "wrapRows", fn := fun _ => fun
  | [d1, d2] => { results := [.lit (.bool false)], args := [d1, d2] }
  | _ => none }
def WrapRowsWrongFalsely : Prop := wrapRowsRow.holds Tryd.pinned (OpenSpec.ofChange wrapRowsWrong)

/-- 'scrollbacklaw27.WrapPlaces': WHATEVER THE INPUT: true; the input reads as it did. -/
def wrapPlacesSpec : ChangeSpec := { name := "wrapPlaces", fn := fun _ => fun
  | [d1, d2, d3, d4] => { results := [.lit (.bool true)], args := [d1, d2, d3, d4] }
  | _ => none }
def wrapPlacesRow : OpenClaim := { program := "ytblpfelhgcggfaadoor", sum := "e031e9cafcd1ca86ae3d122cb64834a713b161a5d4dd753c7c9cb3f70aa9a0be", func := "scrollback/scrollbacklaw27.WrapPlaces", spec := "wrapPlaces", unfollowed := true, recurses := true, named := ["scrollback/width.marks", "scrollback/width.wide"], apart := false, laid := [("scrollback/width.marks", laid_scrollback_width_marks), ("scrollback/width.wide", laid_scrollback_width_wide)] }
def WrapPlacesSaid : Prop := wrapPlacesRow.holds Tryd.pinned (OpenSpec.ofChange wrapPlacesSpec)

/-- ITS FALSE NEIGHBOUR: 'it returns false'. Refute it at one input. -/
def wrapPlacesWrong : ChangeSpec := { name := "wrapPlaces", fn := fun _ => fun
  | [d1, d2, d3, d4] => { results := [.lit (.bool false)], args := [d1, d2, d3, d4] }
  | _ => none }
def WrapPlacesWrongFalsely : Prop := wrapPlacesRow.holds Tryd.pinned (OpenSpec.ofChange wrapPlacesWrong)

/-- 'scrollbacklaw27.WrapAll': WHATEVER THE INPUT: true; the input reads as it did. -/
def wrapAllSpec : ChangeSpec := { name := "wrapAll", fn := fun _ => fun
  | [d1, d2] => { results := [.lit (.bool true)], args := [d1, d2] }
  | _ => none }
def wrapAllRow : OpenClaim := { program := "ytblpfelhgcggfaadoor", sum := "e031e9cafcd1ca86ae3d122cb64834a713b161a5d4dd753c7c9cb3f70aa9a0be", func := "scrollback/scrollbacklaw27.WrapAll", spec := "wrapAll", unfollowed := true, recurses := true, named := ["scrollback/width.marks", "scrollback/width.wide"], apart := false, laid := [("scrollback/width.marks", laid_scrollback_width_marks), ("scrollback/width.wide", laid_scrollback_width_wide)] }
def WrapAllSaid : Prop := wrapAllRow.holds Tryd.pinned (OpenSpec.ofChange wrapAllSpec)

/-- ITS FALSE NEIGHBOUR: 'it returns false'. Refute it at one input. -/
def wrapAllWrong : ChangeSpec := { name := "wrapAll", fn := fun _ => fun
  | [d1, d2] => { results := [.lit (.bool false)], args := [d1, d2] }
  | _ => none }
def WrapAllWrongFalsely : Prop := wrapAllRow.holds Tryd.pinned (OpenSpec.ofChange wrapAllWrong)

/-- 'scrollbacklaw27.WrapLongs': WHATEVER THE INPUT: true; the input reads as it did. -/
def wrapLongsSpec : ChangeSpec := { name := "wrapLongs", fn := fun _ => fun
  | [d1, d2, d3] => { results := [.lit (.bool true)], args := [d1, d2, d3] }
  | _ => none }
def wrapLongsRow : OpenClaim := { program := "ytblpfelhgcggfaadoor", sum := "e031e9cafcd1ca86ae3d122cb64834a713b161a5d4dd753c7c9cb3f70aa9a0be", func := "scrollback/scrollbacklaw27.WrapLongs", spec := "wrapLongs", unfollowed := true, recurses := true, named := ["scrollback/width.marks", "scrollback/width.wide"], apart := false, laid := [("scrollback/width.marks", laid_scrollback_width_marks), ("scrollback/width.wide", laid_scrollback_width_wide)] }
def WrapLongsSaid : Prop := wrapLongsRow.holds Tryd.pinned (OpenSpec.ofChange wrapLongsSpec)

/-- ITS FALSE NEIGHBOUR: 'it returns false'. Refute it at one input. -/
def wrapLongsWrong : ChangeSpec := { name := "wrapLongs", fn := fun _ => fun
  | [d1, d2, d3] => { results := [.lit (.bool false)], args := [d1, d2, d3] }
  | _ => none }
def WrapLongsWrongFalsely : Prop := wrapLongsRow.holds Tryd.pinned (OpenSpec.ofChange wrapLongsWrong)

/-- 'scrollbacklaw27.WrapHolds': WHATEVER THE INPUT: true; the input reads as it did. -/
def wrapHoldsSpec : ChangeSpec := { name := "wrapHolds", fn := fun _ => fun
  | [d1, d2] => { results := [.lit (.bool true)], args := [d1, d2] }
  | _ => none }
def wrapHoldsRow : OpenClaim := { program := "ytblpfelhgcggfaadoor", sum := "e031e9cafcd1ca86ae3d122cb64834a713b161a5d4dd753c7c9cb3f70aa9a0be", func := "scrollback/scrollbacklaw27.WrapHolds", spec := "wrapHolds", unfollowed := true, recurses := true, named := ["scrollback/width.marks", "scrollback/width.wide"], apart := false, laid := [("scrollback/width.marks", laid_scrollback_width_marks), ("scrollback/width.wide", laid_scrollback_width_wide)] }
def WrapHoldsSaid : Prop := wrapHoldsRow.holds Tryd.pinned (OpenSpec.ofChange wrapHoldsSpec)

/-- ITS FALSE NEIGHBOUR: 'it returns false'. Refute it at one input. -/
def wrapHoldsWrong : ChangeSpec := { name := "wrapHolds", fn := fun _ => fun
  | [d1, d2] => { results := [.lit (.bool false)], args := [d1, d2] }
  | _ => none }
def WrapHoldsWrongFalsely : Prop := wrapHoldsRow.holds Tryd.pinned (OpenSpec.ofChange wrapHoldsWrong)

/-- 'scrollbacklaw28.UnwrapLines': WHATEVER THE INPUT: true; the input reads as it did. -/
def unwrapLinesSpec : ChangeSpec := { name := "unwrapLines", fn := fun _ => fun
  | [d] => { results := [.lit (.bool true)], args := [d] }
  | _ => none }
def unwrapLinesRow : OpenClaim := { program := "ytblpfelhgcggfaadoor", sum := "e031e9cafcd1ca86ae3d122cb64834a713b161a5d4dd753c7c9cb3f70aa9a0be", func := "scrollback/scrollbacklaw28.UnwrapLines", spec := "unwrapLines", unfollowed := true, recurses := true, named := ["scrollback/width.marks", "scrollback/width.wide"], apart := false, laid := [("scrollback/width.marks", laid_scrollback_width_marks), ("scrollback/width.wide", laid_scrollback_width_wide)] }
def UnwrapLinesSaid : Prop := unwrapLinesRow.holds Tryd.pinned (OpenSpec.ofChange unwrapLinesSpec)

/-- ITS FALSE NEIGHBOUR: 'it returns false'. Refute it at one input. -/
def unwrapLinesWrong : ChangeSpec := { name := "unwrapLines", fn := fun _ => fun
  | [d] => { results := [.lit (.bool false)], args := [d] }
  | _ => none }
def UnwrapLinesWrongFalsely : Prop := unwrapLinesRow.holds Tryd.pinned (OpenSpec.ofChange unwrapLinesWrong)

/-- 'scrollbacklaw28.UnwrapTexts': WHATEVER THE INPUT: true; the input reads as it did. -/
def unwrapTextsSpec : ChangeSpec := { name := "unwrapTexts", fn := fun _ => fun
  | [d] => { results := [.lit (.bool true)], args := [d] }
  | _ => none }
def unwrapTextsRow : OpenClaim := { program := "ytblpfelhgcggfaadoor", sum := "e031e9cafcd1ca86ae3d122cb64834a713b161a5d4dd753c7c9cb3f70aa9a0be", func := "scrollback/scrollbacklaw28.UnwrapTexts", spec := "unwrapTexts", unfollowed := true, recurses := true, named := ["scrollback/width.marks", "scrollback/width.wide"], apart := false, laid := [("scrollback/width.marks", laid_scrollback_width_marks), ("scrollback/width.wide", laid_scrollback_width_wide)] }
def UnwrapTextsSaid : Prop := unwrapTextsRow.holds Tryd.pinned (OpenSpec.ofChange unwrapTextsSpec)

/-- ITS FALSE NEIGHBOUR: 'it returns false'. Refute it at one input. -/
def unwrapTextsWrong : ChangeSpec := { name := "unwrapTexts", fn := fun _ => fun
  | [d] => { results := [.lit (.bool false)], args := [d] }
  | _ => none }
def UnwrapTextsWrongFalsely : Prop := unwrapTextsRow.holds Tryd.pinned (OpenSpec.ofChange unwrapTextsWrong)

/-- 'scrollbacklaw28.UnwrapHolds': WHATEVER THE INPUT: true; the input reads as it did. -/
def unwrapHoldsSpec : ChangeSpec := { name := "unwrapHolds", fn := fun _ => fun
  | [d] => { results := [.lit (.bool true)], args := [d] }
  | _ => none }
def unwrapHoldsRow : OpenClaim := { program := "ytblpfelhgcggfaadoor", sum := "e031e9cafcd1ca86ae3d122cb64834a713b161a5d4dd753c7c9cb3f70aa9a0be", func := "scrollback/scrollbacklaw28.UnwrapHolds", spec := "unwrapHolds", unfollowed := true, recurses := true, named := ["scrollback/width.marks", "scrollback/width.wide"], apart := false, laid := [("scrollback/width.marks", laid_scrollback_width_marks), ("scrollback/width.wide", laid_scrollback_width_wide)] }
def UnwrapHoldsSaid : Prop := unwrapHoldsRow.holds Tryd.pinned (OpenSpec.ofChange unwrapHoldsSpec)

/-- ITS FALSE NEIGHBOUR: 'it returns false'. Refute it at one input. -/
def unwrapHoldsWrong : ChangeSpec := { name := "unwrapHolds", fn := fun _ => fun
  | [d] => { results := [.lit (.bool false)], args := [d] }
  | _ => none }
def UnwrapHoldsWrongFalsely : Prop := unwrapHoldsRow.holds Tryd.pinned (OpenSpec.ofChange unwrapHoldsWrong)

/-- 'scrollbacklaw28.UnwrapWraps': WHATEVER THE INPUT: true; the input reads as it did. -/
def unwrapWrapsSpec : ChangeSpec := { name := "unwrapWraps", fn := fun _ => fun
  | [d1, d2] => { results := [.lit (.bool true)], args := [d1, d2] }
  | _ => none }
def unwrapWrapsRow : OpenClaim := { program := "ytblpfelhgcggfaadoor", sum := "e031e9cafcd1ca86ae3d122cb64834a713b161a5d4dd753c7c9cb3f70aa9a0be", func := "scrollback/scrollbacklaw28.UnwrapWraps", spec := "unwrapWraps", unfollowed := true, recurses := true, named := ["scrollback/width.marks", "scrollback/width.wide"], apart := false, laid := [("scrollback/width.marks", laid_scrollback_width_marks), ("scrollback/width.wide", laid_scrollback_width_wide)] }
def UnwrapWrapsSaid : Prop := unwrapWrapsRow.holds Tryd.pinned (OpenSpec.ofChange unwrapWrapsSpec)

/-- ITS FALSE NEIGHBOUR: 'it returns false'. Refute it at one input. -/
def unwrapWrapsWrong : ChangeSpec := { name := "unwrapWraps", fn := fun _ => fun
  | [d1, d2] => { results := [.lit (.bool false)], args := [d1, d2] }
  | _ => none }
def UnwrapWrapsWrongFalsely : Prop := unwrapWrapsRow.holds Tryd.pinned (OpenSpec.ofChange unwrapWrapsWrong)

/- THE SECOND FORM. 'bulk': how many values and letters a reading holds, each counted each time it is reached (what is shared counts as often as it is met; a slice's spare places count too). A statement '..UptoSaid' is the law's where the arguments, and the package variables that the reading takes, are together of bulk at most 1048576: NARROWER than '..Said'. Prove '..Said' where nothing that the law and all that it calls make is longer than what came in: it says more and counts as full. Else prove '..UptoSaid'. A law counts once. -/
mutual
def uptoBulk {H : Type} : DataW H → Nat
  | .lit (.string bytes) => bytes.length + 1
  | .lit _ => 1
  | .nil => 1
  | .ptr d => uptoBulk d + 1
  | .slice elems spare => uptoBulkAll elems + uptoBulkAll spare + 1
  | .agg parts => uptoBulkAll parts + 1
  | .iface _ d => uptoBulk d + 1
  | .map entries => uptoBulkEntries entries + 1
  | .held _ => 1
def uptoBulkAll {H : Type} : List (DataW H) → Nat
  | [] => 0
  | d :: r => uptoBulk d + uptoBulkAll r
def uptoBulkEntries {H : Type} : List (Lit × DataW H) → Nat
  | [] => 0
  | x :: r => uptoBulkEntry x + uptoBulkEntries r
def uptoBulkEntry {H : Type} : Lit × DataW H → Nat
  | (.string bytes, d) => bytes.length + uptoBulk d + 1
  | (_, d) => uptoBulk d + 1
 end
def uptoSmall : (H : Type) → List (DataW H) → Bool := fun _ ds => decide (uptoBulkAll ds ≤ 1048576)
def OpenSpec.upto (s : _root_.Go.ChangeSpec) : _root_.Go.OpenSpec := { _root_.Go.OpenSpec.ofChange s with cond := some uptoSmall }

/-- 'scrollbacklaw27.WrapRows', WHERE WHAT IT READS IS OF BULK AT MOST 1048576: true; the input reads as it did. -/
def wrapRowsUptoRow : OpenClaim := { program := "ytblpfelhgcggfaadoor", sum := "e031e9cafcd1ca86ae3d122cb64834a713b161a5d4dd753c7c9cb3f70aa9a0be", func := "scrollback/scrollbacklaw27.WrapRows", spec := "wrapRows", unfollowed := true, recurses := true, named := ["scrollback/width.marks", "scrollback/width.wide"], apart := false, laid := [("scrollback/width.marks", laid_scrollback_width_marks), ("scrollback/width.wide", laid_scrollback_width_wide)], narrowed := true }
def WrapRowsUptoSaid : Prop := wrapRowsUptoRow.holds Tryd.pinned (OpenSpec.upto wrapRowsSpec)

/-- 'scrollbacklaw27.WrapPlaces', WHERE WHAT IT READS IS OF BULK AT MOST 1048576: true; the input reads as it did. -/
def wrapPlacesUptoRow : OpenClaim := { program := "ytblpfelhgcggfaadoor", sum := "e031e9cafcd1ca86ae3d122cb64834a713b161a5d4dd753c7c9cb3f70aa9a0be", func := "scrollback/scrollbacklaw27.WrapPlaces", spec := "wrapPlaces", unfollowed := true, recurses := true, named := ["scrollback/width.marks", "scrollback/width.wide"], apart := false, laid := [("scrollback/width.marks", laid_scrollback_width_marks), ("scrollback/width.wide", laid_scrollback_width_wide)], narrowed := true }
def WrapPlacesUptoSaid : Prop := wrapPlacesUptoRow.holds Tryd.pinned (OpenSpec.upto wrapPlacesSpec)

/-- 'scrollbacklaw27.WrapAll', WHERE WHAT IT READS IS OF BULK AT MOST 1048576: true; the input reads as it did. -/
def wrapAllUptoRow : OpenClaim := { program := "ytblpfelhgcggfaadoor", sum := "e031e9cafcd1ca86ae3d122cb64834a713b161a5d4dd753c7c9cb3f70aa9a0be", func := "scrollback/scrollbacklaw27.WrapAll", spec := "wrapAll", unfollowed := true, recurses := true, named := ["scrollback/width.marks", "scrollback/width.wide"], apart := false, laid := [("scrollback/width.marks", laid_scrollback_width_marks), ("scrollback/width.wide", laid_scrollback_width_wide)], narrowed := true }
def WrapAllUptoSaid : Prop := wrapAllUptoRow.holds Tryd.pinned (OpenSpec.upto wrapAllSpec)

/-- 'scrollbacklaw27.WrapLongs', WHERE WHAT IT READS IS OF BULK AT MOST 1048576: true; the input reads as it did. -/
def wrapLongsUptoRow : OpenClaim := { program := "ytblpfelhgcggfaadoor", sum := "e031e9cafcd1ca86ae3d122cb64834a713b161a5d4dd753c7c9cb3f70aa9a0be", func := "scrollback/scrollbacklaw27.WrapLongs", spec := "wrapLongs", unfollowed := true, recurses := true, named := ["scrollback/width.marks", "scrollback/width.wide"], apart := false, laid := [("scrollback/width.marks", laid_scrollback_width_marks), ("scrollback/width.wide", laid_scrollback_width_wide)], narrowed := true }
def WrapLongsUptoSaid : Prop := wrapLongsUptoRow.holds Tryd.pinned (OpenSpec.upto wrapLongsSpec)

/-- 'scrollbacklaw27.WrapHolds', WHERE WHAT IT READS IS OF BULK AT MOST 1048576: true; the input reads as it did. -/
def wrapHoldsUptoRow : OpenClaim := { program := "ytblpfelhgcggfaadoor", sum := "e031e9cafcd1ca86ae3d122cb64834a713b161a5d4dd753c7c9cb3f70aa9a0be", func := "scrollback/scrollbacklaw27.WrapHolds", spec := "wrapHolds", unfollowed := true, recurses := true, named := ["scrollback/width.marks", "scrollback/width.wide"], apart := false, laid := [("scrollback/width.marks", laid_scrollback_width_marks), ("scrollback/width.wide", laid_scrollback_width_wide)], narrowed := true }
def WrapHoldsUptoSaid : Prop := wrapHoldsUptoRow.holds Tryd.pinned (OpenSpec.upto wrapHoldsSpec)

/-- 'scrollbacklaw28.UnwrapLines', WHERE WHAT IT READS IS OF BULK AT MOST 1048576: true; the input reads as it did. -/
def unwrapLinesUptoRow : OpenClaim := { program := "ytblpfelhgcggfaadoor", sum := "e031e9cafcd1ca86ae3d122cb64834a713b161a5d4dd753c7c9cb3f70aa9a0be", func := "scrollback/scrollbacklaw28.UnwrapLines", spec := "unwrapLines", unfollowed := true, recurses := true, named := ["scrollback/width.marks", "scrollback/width.wide"], apart := false, laid := [("scrollback/width.marks", laid_scrollback_width_marks), ("scrollback/width.wide", laid_scrollback_width_wide)], narrowed := true }
def UnwrapLinesUptoSaid : Prop := unwrapLinesUptoRow.holds Tryd.pinned (OpenSpec.upto unwrapLinesSpec)

/-- 'scrollbacklaw28.UnwrapTexts', WHERE WHAT IT READS IS OF BULK AT MOST 1048576: true; the input reads as it did. -/
def unwrapTextsUptoRow : OpenClaim := { program := "ytblpfelhgcggfaadoor", sum := "e031e9cafcd1ca86ae3d122cb64834a713b161a5d4dd753c7c9cb3f70aa9a0be", func := "scrollback/scrollbacklaw28.UnwrapTexts", spec := "unwrapTexts", unfollowed := true, recurses := true, named := ["scrollback/width.marks", "scrollback/width.wide"], apart := false, laid := [("scrollback/width.marks", laid_scrollback_width_marks), ("scrollback/width.wide", laid_scrollback_width_wide)], narrowed := true }
def UnwrapTextsUptoSaid : Prop := unwrapTextsUptoRow.holds Tryd.pinned (OpenSpec.upto unwrapTextsSpec)

/-- 'scrollbacklaw28.UnwrapHolds', WHERE WHAT IT READS IS OF BULK AT MOST 1048576: true; the input reads as it did. -/
def unwrapHoldsUptoRow : OpenClaim := { program := "ytblpfelhgcggfaadoor", sum := "e031e9cafcd1ca86ae3d122cb64834a713b161a5d4dd753c7c9cb3f70aa9a0be", func := "scrollback/scrollbacklaw28.UnwrapHolds", spec := "unwrapHolds", unfollowed := true, recurses := true, named := ["scrollback/width.marks", "scrollback/width.wide"], apart := false, laid := [("scrollback/width.marks", laid_scrollback_width_marks), ("scrollback/width.wide", laid_scrollback_width_wide)], narrowed := true }
def UnwrapHoldsUptoSaid : Prop := unwrapHoldsUptoRow.holds Tryd.pinned (OpenSpec.upto unwrapHoldsSpec)

/-- 'scrollbacklaw28.UnwrapWraps', WHERE WHAT IT READS IS OF BULK AT MOST 1048576: true; the input reads as it did. -/
def unwrapWrapsUptoRow : OpenClaim := { program := "ytblpfelhgcggfaadoor", sum := "e031e9cafcd1ca86ae3d122cb64834a713b161a5d4dd753c7c9cb3f70aa9a0be", func := "scrollback/scrollbacklaw28.UnwrapWraps", spec := "unwrapWraps", unfollowed := true, recurses := true, named := ["scrollback/width.marks", "scrollback/width.wide"], apart := false, laid := [("scrollback/width.marks", laid_scrollback_width_marks), ("scrollback/width.wide", laid_scrollback_width_wide)], narrowed := true }
def UnwrapWrapsUptoSaid : Prop := unwrapWrapsUptoRow.holds Tryd.pinned (OpenSpec.upto unwrapWrapsSpec)

end Rows
end Go.Proofs.YtblpfelhgcggfaaDoor
