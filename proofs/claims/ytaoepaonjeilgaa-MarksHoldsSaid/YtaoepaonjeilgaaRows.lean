/-
  No cell of these rows narrows 'for every input' (looked for: loops, veiled, ifaces, maps, wideKeys, modest, calm, conditions, laid).
  DERIVED. THE GIVEN ROWS OF THIS SEAT. 4 by the template 'for every input the law returns true; each argument reads behind the call as it read before'; 0 by the template 'total and deterministic' (their statements: YtaoepaonjeilgaaTotals.lean).
  GIVEN WITH THE SEED: the statements are not yours to turn. If you find one false, say at which input.
  Laid BY PROGRAM, IN A SANDBOX (cutbox-rows.mjs): the forced cells as the released guide's own fill.sh prints them over the translation 544fb26d8bac2b9b… (all of the seat's roots in one cut). By AI agents, Wed Nov 11 2026. No macro, syntax, notation, axiom, sorry.
-/
import Derived.Test.YtaoepaonjeilgaaChecked
import GoSem.Claim
import GoSem.ClaimJoined
import GoSem.ClaimMapViews
import Derived.JoinedTies
import Derived.KernelRfl
namespace Go.Proofs.Ytaoepaonjeilgaa
/- THE CELL 'sum', in the pinned program and in every row, IS THE sha256 OF THE DUMP (.gsa) THAT YtaoepaonjeilgaaProg.lean LOADS. Nothing in Lean hashes anything: it is a label: what it is worth is what the hold of that sum in a sandbox is worth. -/
noncomputable def Try.pinned : Pinned := { name := "ytaoepaonjeilgaa", sum := "544fb26d8bac2b9bb2d503b8e390e05aea6036d43b4fb9409459339001bc6388", checked := Try.checked }
namespace Rows
def none {H : Type} : Left H := { results := [], args := [] }

/-- 'scrollbacklaw44.MarksFulls': WHATEVER THE INPUT: true; the input reads as it did. -/
def marksFullsSpec : ChangeSpec := { name := "marksFulls", fn := fun _ => fun
  | [d1, d2] => { results := [.lit (.bool true)], args := [d1, d2] }
  | _ => none }
def marksFullsRow : OpenClaim := { program := "ytaoepaonjeilgaa", sum := "544fb26d8bac2b9bb2d503b8e390e05aea6036d43b4fb9409459339001bc6388", func := "scrollback/scrollbacklaw44.MarksFulls", spec := "marksFulls", unfollowed := true, recurses := true, apart := false }
def MarksFullsSaid : Prop := marksFullsRow.holds Try.pinned (OpenSpec.ofChange marksFullsSpec)

/-- ITS FALSE NEIGHBOUR: 'it returns false'. Refute it at one input. -/
def marksFullsWrong : ChangeSpec := { name := "marksFulls", fn := fun _ => fun
  | [d1, d2] => { results := [.lit (.bool false)], args := [d1, d2] }
  | _ => none }
def MarksFullsWrongFalsely : Prop := marksFullsRow.holds Try.pinned (OpenSpec.ofChange marksFullsWrong)

/-- 'scrollbacklaw44.MarksHolds': WHATEVER THE INPUT: true; the input reads as it did. -/
def marksHoldsSpec : ChangeSpec := { name := "marksHolds", fn := fun _ => fun
  | [d1, d2, d3] => { results := [.lit (.bool true)], args := [d1, d2, d3] }
  | _ => none }
def marksHoldsRow : OpenClaim := { program := "ytaoepaonjeilgaa", sum := "544fb26d8bac2b9bb2d503b8e390e05aea6036d43b4fb9409459339001bc6388", func := "scrollback/scrollbacklaw44.MarksHolds", spec := "marksHolds", unfollowed := true, recurses := true, apart := false }
def MarksHoldsSaid : Prop := marksHoldsRow.holds Try.pinned (OpenSpec.ofChange marksHoldsSpec)

/-- ITS FALSE NEIGHBOUR: 'it returns false'. Refute it at one input. -/
def marksHoldsWrong : ChangeSpec := { name := "marksHolds", fn := fun _ => fun
  | [d1, d2, d3] => { results := [.lit (.bool false)], args := [d1, d2, d3] }
  | _ => none }
def MarksHoldsWrongFalsely : Prop := marksHoldsRow.holds Try.pinned (OpenSpec.ofChange marksHoldsWrong)

/-- 'scrollbacklaw44.MarksPlays': WHATEVER THE INPUT: true; the input reads as it did. -/
def marksPlaysSpec : ChangeSpec := { name := "marksPlays", fn := fun _ => fun
  | [d] => { results := [.lit (.bool true)], args := [d] }
  | _ => none }
def marksPlaysRow : OpenClaim := { program := "ytaoepaonjeilgaa", sum := "544fb26d8bac2b9bb2d503b8e390e05aea6036d43b4fb9409459339001bc6388", func := "scrollback/scrollbacklaw44.MarksPlays", spec := "marksPlays", unfollowed := true, recurses := true, apart := false }
def MarksPlaysSaid : Prop := marksPlaysRow.holds Try.pinned (OpenSpec.ofChange marksPlaysSpec)

/-- ITS FALSE NEIGHBOUR: 'it returns false'. Refute it at one input. -/
def marksPlaysWrong : ChangeSpec := { name := "marksPlays", fn := fun _ => fun
  | [d] => { results := [.lit (.bool false)], args := [d] }
  | _ => none }
def MarksPlaysWrongFalsely : Prop := marksPlaysRow.holds Try.pinned (OpenSpec.ofChange marksPlaysWrong)

/-- 'scrollbacklaw44.MarksNil': WHATEVER THE INPUT: true; the input reads as it did. -/
def marksNilSpec : ChangeSpec := { name := "marksNil", fn := fun _ => fun
  | [d] => { results := [.lit (.bool true)], args := [d] }
  | _ => none }
def marksNilRow : OpenClaim := { program := "ytaoepaonjeilgaa", sum := "544fb26d8bac2b9bb2d503b8e390e05aea6036d43b4fb9409459339001bc6388", func := "scrollback/scrollbacklaw44.MarksNil", spec := "marksNil", unfollowed := true, recurses := true, apart := false }
def MarksNilSaid : Prop := marksNilRow.holds Try.pinned (OpenSpec.ofChange marksNilSpec)

/-- ITS FALSE NEIGHBOUR: 'it returns false'. Refute it at one input. -/
def marksNilWrong : ChangeSpec := { name := "marksNil", fn := fun _ => fun
  | [d] => { results := [.lit (.bool false)], args := [d] }
  | _ => none }
def MarksNilWrongFalsely : Prop := marksNilRow.holds Try.pinned (OpenSpec.ofChange marksNilWrong)

/- THE SECOND FORM. 'bulk': how many values and letters a reading holds, each counted each time it is reached (what is shared counts as often as it is met; a slice's spare places count too). A statement '..UptoSaid' is the law's where the arguments, and the package variables that the reading takes, are together of bulk at most 1048576: NARROWER than '..Said'. Prove '..Said' where nothing that the law and all that it calls make is longer than what came in: it says more and counts as full. Else prove '..UptoSaid'. A law counts once. -/
mutual
def uptoBulk {H : Type} : DataW H → Nat
  | .lit (.string bytes) => bytes.length + 1
  | .lit _ => 1
  | .nil => 1
  | .ptr d => uptoBulk d + 1
  | .slice elems spare => uptoBulkAll elems + uptoBulkAll spare + 1
  | .agg parts => uptoBulkAll parts + 1
  | .iface _ d => uptoBulk d + 1
  | .map entries => uptoBulkEntries entries + 1
  | .held _ => 1
def uptoBulkAll {H : Type} : List (DataW H) → Nat
  | [] => 0
  | d :: r => uptoBulk d + uptoBulkAll r
def uptoBulkEntries {H : Type} : List (Lit × DataW H) → Nat
  | [] => 0
  | x :: r => uptoBulkEntry x + uptoBulkEntries r
def uptoBulkEntry {H : Type} : Lit × DataW H → Nat
  | (.string bytes, d) => bytes.length + uptoBulk d + 1
  | (_, d) => uptoBulk d + 1
 end
def uptoSmall : (H : Type) → List (DataW H) → Bool := fun _ ds => decide (uptoBulkAll ds ≤ 1048576)
def OpenSpec.upto (s : _root_.Go.ChangeSpec) : _root_.Go.OpenSpec := { _root_.Go.OpenSpec.ofChange s with cond := some uptoSmall }

/-- 'scrollbacklaw44.MarksFulls', WHERE WHAT IT READS IS OF BULK AT MOST 1048576: true; the input reads as it did. -/
def marksFullsUptoRow : OpenClaim := { program := "ytaoepaonjeilgaa", sum := "544fb26d8bac2b9bb2d503b8e390e05aea6036d43b4fb9409459339001bc6388", func := "scrollback/scrollbacklaw44.MarksFulls", spec := "marksFulls", unfollowed := true, recurses := true, apart := false, narrowed := true }
def MarksFullsUptoSaid : Prop := marksFullsUptoRow.holds Try.pinned (OpenSpec.upto marksFullsSpec)

/-- 'scrollbacklaw44.MarksHolds', WHERE WHAT IT READS IS OF BULK AT MOST 1048576: true; the input reads as it did. -/
def marksHoldsUptoRow : OpenClaim := { program := "ytaoepaonjeilgaa", sum := "544fb26d8bac2b9bb2d503b8e390e05aea6036d43b4fb9409459339001bc6388", func := "scrollback/scrollbacklaw44.MarksHolds", spec := "marksHolds", unfollowed := true, recurses := true, apart := false, narrowed := true }
def MarksHoldsUptoSaid : Prop := marksHoldsUptoRow.holds Try.pinned (OpenSpec.upto marksHoldsSpec)

/-- 'scrollbacklaw44.MarksPlays', WHERE WHAT IT READS IS OF BULK AT MOST 1048576: true; the input reads as it did. -/
def marksPlaysUptoRow : OpenClaim := { program := "ytaoepaonjeilgaa", sum := "544fb26d8bac2b9bb2d503b8e390e05aea6036d43b4fb9409459339001bc6388", func := "scrollback/scrollbacklaw44.MarksPlays", spec := "marksPlays", unfollowed := true, recurses := true, apart := false, narrowed := true }
def MarksPlaysUptoSaid : Prop := marksPlaysUptoRow.holds Try.pinned (OpenSpec.upto marksPlaysSpec)

/-- 'scrollbacklaw44.MarksNil', WHERE WHAT IT READS IS OF BULK AT MOST 1048576: true; the input reads as it did. -/
def marksNilUptoRow : OpenClaim := { program := "ytaoepaonjeilgaa", sum := "544fb26d8bac2b9bb2d503b8e390e05aea6036d43b4fb9409459339001bc6388", func := "scrollback/scrollbacklaw44.MarksNil", spec := "marksNil", unfollowed := true, recurses := true, apart := false, narrowed := true }
def MarksNilUptoSaid : Prop := marksNilUptoRow.holds Try.pinned (OpenSpec.upto marksNilSpec)

end Rows
end Go.Proofs.Ytaoepaonjeilgaa
