/-
  NARROWER THAN 'FOR EVERY INPUT', by the rows' own cells (each row's printed sentence says how): AnchorTo: laid · AnchorFrom: laid · AnchorCarries: laid · AnchorBacks: laid · AnchorHolds: laid · ReflowMany: laid · ReflowHolds: laid · ReflowLines: laid · ReflowSames: laid · ReflowScreens: laid.
  DERIVED. THE GIVEN ROWS OF THIS SEAT. 10 by the template 'for every input the law returns true; each argument reads behind the call as it read before'; 0 by the template 'total and deterministic' (their statements: YtdmpodpdpncobaaDoorTotals.lean).
  GIVEN WITH THE SEED: the statements are not yours to turn. If you find one false, say at which input.
  Laid BY PROGRAM, IN A SANDBOX (cutbox-rows.mjs): the forced cells as the released guide's own fill.sh prints them over the translation e528962f01919d86… (all of the seat's roots in one cut). By AI agents, Wed Nov 11 2026. No macro, syntax, notation, axiom, sorry.
-/
import Derived.Test.YtdmpodpdpncobaaDoorChecked
import GoSem.Claim
import GoSem.ClaimJoined
import GoSem.ClaimMapViews
import Derived.JoinedTies
import Derived.KernelRfl
namespace Go.Proofs.YtdmpodpdpncobaaDoor
/- THE CELL 'sum', in the pinned program and in every row, IS THE sha256 OF THE DUMP (.gsa) THAT YtdmpodpdpncobaaDoorProg.lean LOADS. Nothing in Lean hashes anything: it is a label: what it is worth is what the hold of that sum in a sandbox is worth. -/
noncomputable def Tryd.pinned : Pinned := { name := "ytdmpodpdpncobaadoor", sum := "e528962f01919d86fde1cc37520ec90e784ced736641ae9e586f1683961da545", checked := Tryd.checked }
namespace Rows
def none {H : Type} : Left H := { results := [], args := [] }

/- WHAT THE LISTED PACKAGE-LEVEL VARIABLES READ AS WHEN THE CALL BEGINS. Each datum BY PROGRAM (the guide's laid-datum.mjs) off the statement by which the dump's own 'gosem.cut.vars' lays the variable. In a bare row this is a premise. The card (YtdmpodpdpncobaaDoorCards.lean) ties it to the program's text. -/
def laid_scrollback_width_marks {H : Type} : DataW H := .agg [.agg [.lit (.int .i32 768), .lit (.int .i32 879)], .agg [.lit (.int .i32 1155), .lit (.int .i32 1161)], .agg [.lit (.int .i32 1425), .lit (.int .i32 1469)], .agg [.lit (.int .i32 1552), .lit (.int .i32 1562)], .agg [.lit (.int .i32 1611), .lit (.int .i32 1631)], .agg [.lit (.int .i32 1750), .lit (.int .i32 1756)], .agg [.lit (.int .i32 3633), .lit (.int .i32 3633)], .agg [.lit (.int .i32 3636), .lit (.int .i32 3642)], .agg [.lit (.int .i32 3655), .lit (.int .i32 3662)], .agg [.lit (.int .i32 6832), .lit (.int .i32 6911)], .agg [.lit (.int .i32 7616), .lit (.int .i32 7679)], .agg [.lit (.int .i32 8203), .lit (.int .i32 8207)], .agg [.lit (.int .i32 8400), .lit (.int .i32 8447)], .agg [.lit (.int .i32 12330), .lit (.int .i32 12335)], .agg [.lit (.int .i32 12441), .lit (.int .i32 12442)], .agg [.lit (.int .i32 65024), .lit (.int .i32 65039)], .agg [.lit (.int .i32 65056), .lit (.int .i32 65071)], .agg [.lit (.int .i32 917760), .lit (.int .i32 917999)]]
def laid_scrollback_width_wide {H : Type} : DataW H := .agg [.agg [.lit (.int .i32 4352), .lit (.int .i32 4447)], .agg [.lit (.int .i32 9001), .lit (.int .i32 9002)], .agg [.lit (.int .i32 11904), .lit (.int .i32 12329)], .agg [.lit (.int .i32 12336), .lit (.int .i32 12350)], .agg [.lit (.int .i32 12353), .lit (.int .i32 12440)], .agg [.lit (.int .i32 12443), .lit (.int .i32 13311)], .agg [.lit (.int .i32 13312), .lit (.int .i32 19903)], .agg [.lit (.int .i32 19968), .lit (.int .i32 42191)], .agg [.lit (.int .i32 43360), .lit (.int .i32 43391)], .agg [.lit (.int .i32 44032), .lit (.int .i32 55203)], .agg [.lit (.int .i32 63744), .lit (.int .i32 64255)], .agg [.lit (.int .i32 65072), .lit (.int .i32 65135)], .agg [.lit (.int .i32 65280), .lit (.int .i32 65376)], .agg [.lit (.int .i32 65504), .lit (.int .i32 65510)], .agg [.lit (.int .i32 127744), .lit (.int .i32 128591)], .agg [.lit (.int .i32 128640), .lit (.int .i32 128767)], .agg [.lit (.int .i32 129280), .lit (.int .i32 129535)], .agg [.lit (.int .i32 131072), .lit (.int .i32 196605)], .agg [.lit (.int .i32 196608), .lit (.int .i32 262141)]]

/-- 'scrollbacklaw29.AnchorTo': WHATEVER THE INPUT: true; the input reads as it did. -/
def anchorToSpec : ChangeSpec := { name := "anchorTo", fn := fun _ => fun
  | [d1, d2] => { results := [.lit (.bool true)], args := [d1, d2] }
  | _ => none }
def anchorToRow : OpenClaim := { program := "ytdmpodpdpncobaadoor", sum := "e528962f01919d86fde1cc37520ec90e784ced736641ae9e586f1683961da545", func := "scrollback/scrollbacklaw29.AnchorTo", spec := "anchorTo", unfollowed := true, recurses := true, named := ["scrollback/width.marks", "scrollback/width.wide"], apart := false, laid := [("scrollback/width.marks", laid_scrollback_width_marks), ("scrollback/width.wide", laid_scrollback_width_wide)] }
def AnchorToSaid : Prop := anchorToRow.holds Tryd.pinned (OpenSpec.ofChange anchorToSpec)

/-- ITS FALSE NEIGHBOUR: 'it returns false'. Refute it at one input. -/
def anchorToWrong : ChangeSpec := { name := "anchorTo", fn := fun _ => fun
  | [d1, d2] => { results := [.lit (.bool false)], args := [d1, d2] }
  | _ => none }
def AnchorToWrongFalsely : Prop := anchorToRow.holds Tryd.pinned (OpenSpec.ofChange anchorToWrong)

/-- 'scrollbacklaw29.AnchorFrom': WHATEVER THE INPUT: true; the input reads as it did. -/
def anchorFromSpec : ChangeSpec := { name := "anchorFrom", fn := fun _ => fun
  | [d1, d2, d3, d4] => { results := [.lit (.bool true)], args := [d1, d2, d3, d4] }
  | _ => none }
def anchorFromRow : OpenClaim := { program := "ytdmpodpdpncobaadoor", sum := "e528962f01919d86fde1cc37520ec90e784ced736641ae9e586f1683961da545", func := "scrollback/scrollbacklaw29.AnchorFrom", spec := "anchorFrom", unfollowed := true, recurses := true, named := ["scrollback/width.marks", "scrollback/width.wide"], apart := false, laid := [("scrollback/width.marks", laid_scrollback_width_marks), ("scrollback/width.wide", laid_scrollback_width_wide)] }
def AnchorFromSaid : Prop := anchorFromRow.holds Tryd.pinned (OpenSpec.ofChange anchorFromSpec)

/-- ITS FALSE NEIGHBOUR: 'it returns false'. Refute it at one input. -/
def anchorFromWrong : ChangeSpec := { name := "anchorFrom", fn := fun _ => fun
  | [d1, d2, d3, d4] => { results := [.lit (.bool false)], args := [d1, d2, d3, d4] }
  | _ => none }
def AnchorFromWrongFalsely : Prop := anchorFromRow.holds Tryd.pinned (OpenSpec.ofChange anchorFromWrong)

/-- 'scrollbacklaw29.AnchorCarries': WHATEVER THE INPUT: true; the input reads as it did. -/
def anchorCarriesSpec : ChangeSpec := { name := "anchorCarries", fn := fun _ => fun
  | [d1, d2, d3] => { results := [.lit (.bool true)], args := [d1, d2, d3] }
  | _ => none }
def anchorCarriesRow : OpenClaim := { program := "ytdmpodpdpncobaadoor", sum := "e528962f01919d86fde1cc37520ec90e784ced736641ae9e586f1683961da545", func := "scrollback/scrollbacklaw29.AnchorCarries", spec := "anchorCarries", unfollowed := true, recurses := true, named := ["scrollback/width.marks", "scrollback/width.wide"], apart := false, laid := [("scrollback/width.marks", laid_scrollback_width_marks), ("scrollback/width.wide", laid_scrollback_width_wide)] }
def AnchorCarriesSaid : Prop := anchorCarriesRow.holds Tryd.pinned (OpenSpec.ofChange anchorCarriesSpec)

/-- ITS FALSE NEIGHBOUR: 'it returns false'. Refute it at one input. -/
def anchorCarriesWrong : ChangeSpec := { name := "anchorCarries", fn := fun _ => fun
  | [d1, d2, d3] => { results := [.lit (.bool false)], args := [d1, d2, d3] }
  | _ => none }
def AnchorCarriesWrongFalsely : Prop := anchorCarriesRow.holds Tryd.pinned (OpenSpec.ofChange anchorCarriesWrong)

/-- 'scrollbacklaw29.AnchorBacks': WHATEVER THE INPUT: true; the input reads as it did. -/
def anchorBacksSpec : ChangeSpec := { name := "anchorBacks", fn := fun _ => fun
  | [d1, d2, d3, d4] => { results := [.lit (.bool true)], args := [d1, d2, d3, d4] }
  | _ => none }
def anchorBacksRow : OpenClaim := { program := "ytdmpodpdpncobaadoor", sum := "e528962f01919d86fde1cc37520ec90e784ced736641ae9e586f1683961da545", func := "scrollback/scrollbacklaw29.AnchorBacks", spec := "anchorBacks", unfollowed := true, recurses := true, named := ["scrollback/width.marks", "scrollback/width.wide"], apart := false, laid := [("scrollback/width.marks", laid_scrollback_width_marks), ("scrollback/width.wide", laid_scrollback_width_wide)] }
def AnchorBacksSaid : Prop := anchorBacksRow.holds Tryd.pinned (OpenSpec.ofChange anchorBacksSpec)

/-- ITS FALSE NEIGHBOUR: 'it returns false'. Refute it at one input. -/
def anchorBacksWrong : ChangeSpec := { name := "anchorBacks", fn := fun _ => fun
  | [d1, d2, d3, d4] => { results := [.lit (.bool false)], args := [d1, d2, d3, d4] }
  | _ => none }
def AnchorBacksWrongFalsely : Prop := anchorBacksRow.holds Tryd.pinned (OpenSpec.ofChange anchorBacksWrong)

/-- 'scrollbacklaw29.AnchorHolds': WHATEVER THE INPUT: true; the input reads as it did. -/
def anchorHoldsSpec : ChangeSpec := { name := "anchorHolds", fn := fun _ => fun
  | [d1, d2, d3, d4] => { results := [.lit (.bool true)], args := [d1, d2, d3, d4] }
  | _ => none }
def anchorHoldsRow : OpenClaim := { program := "ytdmpodpdpncobaadoor", sum := "e528962f01919d86fde1cc37520ec90e784ced736641ae9e586f1683961da545", func := "scrollback/scrollbacklaw29.AnchorHolds", spec := "anchorHolds", unfollowed := true, recurses := true, named := ["scrollback/width.marks", "scrollback/width.wide"], apart := false, laid := [("scrollback/width.marks", laid_scrollback_width_marks), ("scrollback/width.wide", laid_scrollback_width_wide)] }
def AnchorHoldsSaid : Prop := anchorHoldsRow.holds Tryd.pinned (OpenSpec.ofChange anchorHoldsSpec)

/-- ITS FALSE NEIGHBOUR: 'it returns false'. Refute it at one input. -/
def anchorHoldsWrong : ChangeSpec := { name := "anchorHolds", fn := fun _ => fun
  | [d1, d2, d3, d4] => { results := [.lit (.bool false)], args := [d1, d2, d3, d4] }
  | _ => none }
def AnchorHoldsWrongFalsely : Prop := anchorHoldsRow.holds Tryd.pinned (OpenSpec.ofChange anchorHoldsWrong)

/-- 'scrollbacklaw30.ReflowMany': WHATEVER THE INPUT: true; the input reads as it did. -/
def reflowManySpec : ChangeSpec := { name := "reflowMany", fn := fun _ => fun
  | [d] => { results := [.lit (.bool true)], args := [d] }
  | _ => none }
def reflowManyRow : OpenClaim := { program := "ytdmpodpdpncobaadoor", sum := "e528962f01919d86fde1cc37520ec90e784ced736641ae9e586f1683961da545", func := "scrollback/scrollbacklaw30.ReflowMany", spec := "reflowMany", unfollowed := true, recurses := true, named := ["scrollback/width.marks", "scrollback/width.wide"], apart := false, laid := [("scrollback/width.marks", laid_scrollback_width_marks), ("scrollback/width.wide", laid_scrollback_width_wide)] }
def ReflowManySaid : Prop := reflowManyRow.holds Tryd.pinned (OpenSpec.ofChange reflowManySpec)

/-- ITS FALSE NEIGHBOUR: 'it returns false'. Refute it at one input. -/
def reflowManyWrong : ChangeSpec := { name := "reflowMany", fn := fun _ => fun
  | [d] => { results := [.lit (.bool false)], args := [d] }
  | _ => none }
def ReflowManyWrongFalsely : Prop := reflowManyRow.holds Tryd.pinned (OpenSpec.ofChange reflowManyWrong)

/-- 'scrollbacklaw30.ReflowHolds': WHATEVER THE INPUT: true; the input reads as it did. -/
def reflowHoldsSpec : ChangeSpec := { name := "reflowHolds", fn := fun _ => fun
  | [d1, d2, d3, d4, d5] => { results := [.lit (.bool true)], args := [d1, d2, d3, d4, d5] }
  | _ => none }
def reflowHoldsRow : OpenClaim := { program := "ytdmpodpdpncobaadoor", sum := "e528962f01919d86fde1cc37520ec90e784ced736641ae9e586f1683961da545", func := "scrollback/scrollbacklaw30.ReflowHolds", spec := "reflowHolds", unfollowed := true, recurses := true, named := ["scrollback/width.marks", "scrollback/width.wide"], apart := false, laid := [("scrollback/width.marks", laid_scrollback_width_marks), ("scrollback/width.wide", laid_scrollback_width_wide)] }
def ReflowHoldsSaid : Prop := reflowHoldsRow.holds Tryd.pinned (OpenSpec.ofChange reflowHoldsSpec)

/-- ITS FALSE NEIGHBOUR: 'it returns false'. Refute it at one input. -/
def reflowHoldsWrong : ChangeSpec := { name := "reflowHolds", fn := fun _ => fun
  | [d1, d2, d3, d4, d5] => { results := [.lit (.bool false)], args := [d1, d2, d3, d4, d5] }
  | _ => none }
def ReflowHoldsWrongFalsely : Prop := reflowHoldsRow.holds Tryd.pinned (OpenSpec.ofChange reflowHoldsWrong)

/-- 'scrollbacklaw30.ReflowLines': WHATEVER THE INPUT: true; the input reads as it did. -/
def reflowLinesSpec : ChangeSpec := { name := "reflowLines", fn := fun _ => fun
  | [d1, d2, d3] => { results := [.lit (.bool true)], args := [d1, d2, d3] }
  | _ => none }
def reflowLinesRow : OpenClaim := { program := "ytdmpodpdpncobaadoor", sum := "e528962f01919d86fde1cc37520ec90e784ced736641ae9e586f1683961da545", func := "scrollback/scrollbacklaw30.ReflowLines", spec := "reflowLines", unfollowed := true, recurses := true, named := ["scrollback/width.marks", "scrollback/width.wide"], apart := false, laid := [("scrollback/width.marks", laid_scrollback_width_marks), ("scrollback/width.wide", laid_scrollback_width_wide)] }
def ReflowLinesSaid : Prop := reflowLinesRow.holds Tryd.pinned (OpenSpec.ofChange reflowLinesSpec)

/-- ITS FALSE NEIGHBOUR: 'it returns false'. Refute it at one input. -/
def reflowLinesWrong : ChangeSpec := { name := "reflowLines", fn := fun _ => fun
  | [d1, d2, d3] => { results := [.lit (.bool false)], args := [d1, d2, d3] }
  | _ => none }
def ReflowLinesWrongFalsely : Prop := reflowLinesRow.holds Tryd.pinned (OpenSpec.ofChange reflowLinesWrong)

/-- 'scrollbacklaw30.ReflowSames': WHATEVER THE INPUT: true; the input reads as it did. -/
def reflowSamesSpec : ChangeSpec := { name := "reflowSames", fn := fun _ => fun
  | [d1, d2, d3, d4] => { results := [.lit (.bool true)], args := [d1, d2, d3, d4] }
  | _ => none }
def reflowSamesRow : OpenClaim := { program := "ytdmpodpdpncobaadoor", sum := "e528962f01919d86fde1cc37520ec90e784ced736641ae9e586f1683961da545", func := "scrollback/scrollbacklaw30.ReflowSames", spec := "reflowSames", unfollowed := true, recurses := true, named := ["scrollback/width.marks", "scrollback/width.wide"], apart := false, laid := [("scrollback/width.marks", laid_scrollback_width_marks), ("scrollback/width.wide", laid_scrollback_width_wide)] }
def ReflowSamesSaid : Prop := reflowSamesRow.holds Tryd.pinned (OpenSpec.ofChange reflowSamesSpec)

/-- ITS FALSE NEIGHBOUR: 'it returns false'. Refute it at one input. -/
def reflowSamesWrong : ChangeSpec := { name := "reflowSames", fn := fun _ => fun
  | [d1, d2, d3, d4] => { results := [.lit (.bool false)], args := [d1, d2, d3, d4] }
  | _ => none }
def ReflowSamesWrongFalsely : Prop := reflowSamesRow.holds Tryd.pinned (OpenSpec.ofChange reflowSamesWrong)

/-- 'scrollbacklaw30.ReflowScreens': WHATEVER THE INPUT: true; the input reads as it did. -/
def reflowScreensSpec : ChangeSpec := { name := "reflowScreens", fn := fun _ => fun
  | [d1, d2, d3] => { results := [.lit (.bool true)], args := [d1, d2, d3] }
  | _ => none }
def reflowScreensRow : OpenClaim := { program := "ytdmpodpdpncobaadoor", sum := "e528962f01919d86fde1cc37520ec90e784ced736641ae9e586f1683961da545", func := "scrollback/scrollbacklaw30.ReflowScreens", spec := "reflowScreens", unfollowed := true, recurses := true, named := ["scrollback/width.marks", "scrollback/width.wide"], apart := false, laid := [("scrollback/width.marks", laid_scrollback_width_marks), ("scrollback/width.wide", laid_scrollback_width_wide)] }
def ReflowScreensSaid : Prop := reflowScreensRow.holds Tryd.pinned (OpenSpec.ofChange reflowScreensSpec)

/-- ITS FALSE NEIGHBOUR: 'it returns false'. Refute it at one input. -/
def reflowScreensWrong : ChangeSpec := { name := "reflowScreens", fn := fun _ => fun
  | [d1, d2, d3] => { results := [.lit (.bool false)], args := [d1, d2, d3] }
  | _ => none }
def ReflowScreensWrongFalsely : Prop := reflowScreensRow.holds Tryd.pinned (OpenSpec.ofChange reflowScreensWrong)

/- THE SECOND FORM. 'bulk': how many values and letters a reading holds, each counted each time it is reached (what is shared counts as often as it is met; a slice's spare places count too). A statement '..UptoSaid' is the law's where the arguments, and the package variables that the reading takes, are together of bulk at most 1048576: NARROWER than '..Said'. Prove '..Said' where nothing that the law and all that it calls make is longer than what came in: it says more and counts as full. Else prove '..UptoSaid'. A law counts once. -/
mutual
def uptoBulk {H : Type} : DataW H → Nat
  | .lit (.string bytes) => bytes.length + 1
  | .lit _ => 1
  | .nil => 1
  | .ptr d => uptoBulk d + 1
  | .slice elems spare => uptoBulkAll elems + uptoBulkAll spare + 1
  | .agg parts => uptoBulkAll parts + 1
  | .iface _ d => uptoBulk d + 1
  | .map entries => uptoBulkEntries entries + 1
  | .held _ => 1
def uptoBulkAll {H : Type} : List (DataW H) → Nat
  | [] => 0
  | d :: r => uptoBulk d + uptoBulkAll r
def uptoBulkEntries {H : Type} : List (Lit × DataW H) → Nat
  | [] => 0
  | x :: r => uptoBulkEntry x + uptoBulkEntries r
def uptoBulkEntry {H : Type} : Lit × DataW H → Nat
  | (.string bytes, d) => bytes.length + uptoBulk d + 1
  | (_, d) => uptoBulk d + 1
 end
def uptoSmall : (H : Type) → List (DataW H) → Bool := fun _ ds => decide (uptoBulkAll ds ≤ 1048576)
def OpenSpec.upto (s : _root_.Go.ChangeSpec) : _root_.Go.OpenSpec := { _root_.Go.OpenSpec.ofChange s with cond := some uptoSmall }

/-- 'scrollbacklaw29.AnchorTo', WHERE WHAT IT READS IS OF BULK AT MOST 1048576: true; the input reads as it did. -/
def anchorToUptoRow : OpenClaim := { program := "ytdmpodpdpncobaadoor", sum := "e528962f01919d86fde1cc37520ec90e784ced736641ae9e586f1683961da545", func := "scrollback/scrollbacklaw29.AnchorTo", spec := "anchorTo", unfollowed := true, recurses := true, named := ["scrollback/width.marks", "scrollback/width.wide"], apart := false, laid := [("scrollback/width.marks", laid_scrollback_width_marks), ("scrollback/width.wide", laid_scrollback_width_wide)], narrowed := true }
def AnchorToUptoSaid : Prop := anchorToUptoRow.holds Tryd.pinned (OpenSpec.upto anchorToSpec)

/-- 'scrollbacklaw29.AnchorFrom', WHERE WHAT IT READS IS OF BULK AT MOST 1048576: true; the input reads as it did. -/
def anchorFromUptoRow : OpenClaim := { program := "ytdmpodpdpncobaadoor", sum := "e528962f01919d86fde1cc37520ec90e784ced736641ae9e586f1683961da545", func := "scrollback/scrollbacklaw29.AnchorFrom", spec := "anchorFrom", unfollowed := true, recurses := true, named := ["scrollback/width.marks", "scrollback/width.wide"], apart := false, laid := [("scrollback/width.marks", laid_scrollback_width_marks), ("scrollback/width.wide", laid_scrollback_width_wide)], narrowed := true }
def AnchorFromUptoSaid : Prop := anchorFromUptoRow.holds Tryd.pinned (OpenSpec.upto anchorFromSpec)

/-- 'scrollbacklaw29.AnchorCarries', WHERE WHAT IT READS IS OF BULK AT MOST 1048576: true; the input reads as it did. -/
def anchorCarriesUptoRow : OpenClaim := { program := "ytdmpodpdpncobaadoor", sum := "e528962f01919d86fde1cc37520ec90e784ced736641ae9e586f1683961da545", func := "scrollback/scrollbacklaw29.AnchorCarries", spec := "anchorCarries", unfollowed := true, recurses := true, named := ["scrollback/width.marks", "scrollback/width.wide"], apart := false, laid := [("scrollback/width.marks", laid_scrollback_width_marks), ("scrollback/width.wide", laid_scrollback_width_wide)], narrowed := true }
def AnchorCarriesUptoSaid : Prop := anchorCarriesUptoRow.holds Tryd.pinned (OpenSpec.upto anchorCarriesSpec)

/-- 'scrollbacklaw29.AnchorBacks', WHERE WHAT IT READS IS OF BULK AT MOST 1048576: true; the input reads as it did. -/
def anchorBacksUptoRow : OpenClaim := { program := "ytdmpodpdpncobaadoor", sum := "e528962f01919d86fde1cc37520ec90e784ced736641ae9e586f1683961da545", func := "scrollback/scrollbacklaw29.AnchorBacks", spec := "anchorBacks", unfollowed := true, recurses := true, named := ["scrollback/width.marks", "scrollback/width.wide"], apart := false, laid := [("scrollback/width.marks", laid_scrollback_width_marks), ("scrollback/width.wide", laid_scrollback_width_wide)], narrowed := true }
def AnchorBacksUptoSaid : Prop := anchorBacksUptoRow.holds Tryd.pinned (OpenSpec.upto anchorBacksSpec)

/-- 'scrollbacklaw29.AnchorHolds', WHERE WHAT IT READS IS OF BULK AT MOST 1048576: true; the input reads as it did. -/
def anchorHoldsUptoRow : OpenClaim := { program := "ytdmpodpdpncobaadoor", sum := "e528962f01919d86fde1cc37520ec90e784ced736641ae9e586f1683961da545", func := "scrollback/scrollbacklaw29.AnchorHolds", spec := "anchorHolds", unfollowed := true, recurses := true, named := ["scrollback/width.marks", "scrollback/width.wide"], apart := false, laid := [("scrollback/width.marks", laid_scrollback_width_marks), ("scrollback/width.wide", laid_scrollback_width_wide)], narrowed := true }
def AnchorHoldsUptoSaid : Prop := anchorHoldsUptoRow.holds Tryd.pinned (OpenSpec.upto anchorHoldsSpec)

/-- 'scrollbacklaw30.ReflowMany', WHERE WHAT IT READS IS OF BULK AT MOST 1048576: true; the input reads as it did. -/
def reflowManyUptoRow : OpenClaim := { program := "ytdmpodpdpncobaadoor", sum := "e528962f01919d86fde1cc37520ec90e784ced736641ae9e586f1683961da545", func := "scrollback/scrollbacklaw30.ReflowMany", spec := "reflowMany", unfollowed := true, recurses := true, named := ["scrollback/width.marks", "scrollback/width.wide"], apart := false, laid := [("scrollback/width.marks", laid_scrollback_width_marks), ("scrollback/width.wide", laid_scrollback_width_wide)], narrowed := true }
def ReflowManyUptoSaid : Prop := reflowManyUptoRow.holds Tryd.pinned (OpenSpec.upto reflowManySpec)

/-- 'scrollbacklaw30.ReflowHolds', WHERE WHAT IT READS IS OF BULK AT MOST 1048576: true; the input reads as it did. -/
def reflowHoldsUptoRow : OpenClaim := { program := "ytdmpodpdpncobaadoor", sum := "e528962f01919d86fde1cc37520ec90e784ced736641ae9e586f1683961da545", func := "scrollback/scrollbacklaw30.ReflowHolds", spec := "reflowHolds", unfollowed := true, recurses := true, named := ["scrollback/width.marks", "scrollback/width.wide"], apart := false, laid := [("scrollback/width.marks", laid_scrollback_width_marks), ("scrollback/width.wide", laid_scrollback_width_wide)], narrowed := true }
def ReflowHoldsUptoSaid : Prop := reflowHoldsUptoRow.holds Tryd.pinned (OpenSpec.upto reflowHoldsSpec)

/-- 'scrollbacklaw30.ReflowLines', WHERE WHAT IT READS IS OF BULK AT MOST 1048576: true; the input reads as it did. -/
def reflowLinesUptoRow : OpenClaim := { program := "ytdmpodpdpncobaadoor", sum := "e528962f01919d86fde1cc37520ec90e784ced736641ae9e586f1683961da545", func := "scrollback/scrollbacklaw30.ReflowLines", spec := "reflowLines", unfollowed := true, recurses := true, named := ["scrollback/width.marks", "scrollback/width.wide"], apart := false, laid := [("scrollback/width.marks", laid_scrollback_width_marks), ("scrollback/width.wide", laid_scrollback_width_wide)], narrowed := true }
def ReflowLinesUptoSaid : Prop := reflowLinesUptoRow.holds Tryd.pinned (OpenSpec.upto reflowLinesSpec)

/-- 'scrollbacklaw30.ReflowSames', WHERE WHAT IT READS IS OF BULK AT MOST 1048576: true; the input reads as it did. -/
def reflowSamesUptoRow : OpenClaim := { program := "ytdmpodpdpncobaadoor", sum := "e528962f01919d86fde1cc37520ec90e784ced736641ae9e586f1683961da545", func := "scrollback/scrollbacklaw30.ReflowSames", spec := "reflowSames", unfollowed := true, recurses := true, named := ["scrollback/width.marks", "scrollback/width.wide"], apart := false, laid := [("scrollback/width.marks", laid_scrollback_width_marks), ("scrollback/width.wide", laid_scrollback_width_wide)], narrowed := true }
def ReflowSamesUptoSaid : Prop := reflowSamesUptoRow.holds Tryd.pinned (OpenSpec.upto reflowSamesSpec)

/-- 'scrollbacklaw30.ReflowScreens', WHERE WHAT IT READS IS OF BULK AT MOST 1048576: true; the input reads as it did. -/
def reflowScreensUptoRow : OpenClaim := { program := "ytdmpodpdpncobaadoor", sum := "e528962f01919d86fde1cc37520ec90e784ced736641ae9e586f1683961da545", func := "scrollback/scrollbacklaw30.ReflowScreens", spec := "reflowScreens", unfollowed := true, recurses := true, named := ["scrollback/width.marks", "scrollback/width.wide"], apart := false, laid := [("scrollback/width.marks", laid_scrollback_width_marks), ("scrollback/width.wide", laid_scrollback_width_wide)], narrowed := true }
def ReflowScreensUptoSaid : Prop := reflowScreensUptoRow.holds Tryd.pinned (OpenSpec.upto reflowScreensSpec)

end Rows
end Go.Proofs.YtdmpodpdpncobaaDoor
