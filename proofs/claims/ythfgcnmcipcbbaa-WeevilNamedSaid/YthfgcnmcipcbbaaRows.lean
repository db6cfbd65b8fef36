/-
  No cell of these rows narrows 'for every input' (looked for: loops, veiled, ifaces, maps, wideKeys, modest, calm, conditions, laid).
  DERIVED. THE GIVEN ROWS OF THIS SEAT. 6 by the template 'for every input the law returns true; each argument reads behind the call as it read before'; 0 by the template 'total and deterministic' (their statements: YthfgcnmcipcbbaaTotals.lean).
  GIVEN WITH THE SEED: the statements are not yours to turn. If you find one false, say at which input.
  Laid BY PROGRAM, IN A SANDBOX (cutbox-rows.mjs): the forced cells as the released guide's own fill.sh prints them over the translation f0c1af762cccaa62… (all of the seat's roots in one cut). By AI agents, Wed Nov 11 2026. No macro, syntax, notation, axiom, sorry.
-/
import Derived.Test.YthfgcnmcipcbbaaChecked
import GoSem.Claim
import GoSem.ClaimJoined
import GoSem.ClaimMapViews
import Derived.JoinedTies
import Derived.KernelRfl
namespace Go.Proofs.Ythfgcnmcipcbbaa
/- THE CELL 'sum', in the pinned program and in every row, IS THE sha256 OF THE DUMP (.gsa) THAT YthfgcnmcipcbbaaProg.lean LOADS. Nothing in Lean hashes anything: it is a label: what it is worth is what the hold of that sum in a sandbox is worth. -/
noncomputable def Try.pinned : Pinned := { name := "ythfgcnmcipcbbaa", sum := "f0c1af762cccaa62ee07efac5b702a1992a147c5926aad3a1beaeabc27fa71c4", checked := Try.checked }
namespace Rows
def none {H : Type} : Left H := { results := [], args := [] }

/-- 'staddlelaw06.WeevilClash': WHATEVER THE INPUT: true; the input reads as it did. -/
def weevilClashSpec : ChangeSpec := { name := "weevilClash", fn := fun _ => fun
  | [d1, d2, d3] => { results := [.lit (.bool true)], args := [d1, d2, d3] }
  | _ => none }
def weevilClashRow : OpenClaim := { program := "ythfgcnmcipcbbaa", sum := "f0c1af762cccaa62ee07efac5b702a1992a147c5926aad3a1beaeabc27fa71c4", func := "staddle/staddlelaw06.WeevilClash", spec := "weevilClash", unfollowed := true, recurses := true, plainKeys := false, apart := false }
def WeevilClashSaid : Prop := weevilClashRow.holds Try.pinned (OpenSpec.ofChange weevilClashSpec)

/-- ITS FALSE NEIGHBOUR: 'it returns false'. Refute it at one input. -/
def weevilClashWrong : ChangeSpec := { name := "weevilClash", fn := fun _ => fun
  | [d1, d2, d3] => { results := [.lit (.bool false)], args := [d1, d2, d3] }
  | _ => none }
def WeevilClashWrongFalsely : Prop := weevilClashRow.holds Try.pinned (OpenSpec.ofChange weevilClashWrong)

/-- 'staddlelaw06.WeevilWeeks': WHATEVER THE INPUT: true; the input reads as it did. -/
def weevilWeeksSpec : ChangeSpec := { name := "weevilWeeks", fn := fun _ => fun
  | [d1, d2] => { results := [.lit (.bool true)], args := [d1, d2] }
  | _ => none }
def weevilWeeksRow : OpenClaim := { program := "ythfgcnmcipcbbaa", sum := "f0c1af762cccaa62ee07efac5b702a1992a147c5926aad3a1beaeabc27fa71c4", func := "staddle/staddlelaw06.WeevilWeeks", spec := "weevilWeeks", unfollowed := true, recurses := true, plainKeys := false, apart := false }
def WeevilWeeksSaid : Prop := weevilWeeksRow.holds Try.pinned (OpenSpec.ofChange weevilWeeksSpec)

/-- ITS FALSE NEIGHBOUR: 'it returns false'. Refute it at one input. -/
def weevilWeeksWrong : ChangeSpec := { name := "weevilWeeks", fn := fun _ => fun
  | [d1, d2] => { results := [.lit (.bool false)], args := [d1, d2] }
  | _ => none }
def WeevilWeeksWrongFalsely : Prop := weevilWeeksRow.holds Try.pinned (OpenSpec.ofChange weevilWeeksWrong)

/-- 'staddlelaw06.WeevilSpeed': WHATEVER THE INPUT: true; the input reads as it did. -/
def weevilSpeedSpec : ChangeSpec := { name := "weevilSpeed", fn := fun _ => fun
  | [d1, d2, d3] => { results := [.lit (.bool true)], args := [d1, d2, d3] }
  | _ => none }
def weevilSpeedRow : OpenClaim := { program := "ythfgcnmcipcbbaa", sum := "f0c1af762cccaa62ee07efac5b702a1992a147c5926aad3a1beaeabc27fa71c4", func := "staddle/staddlelaw06.WeevilSpeed", spec := "weevilSpeed", unfollowed := true, recurses := true, plainKeys := false, apart := false }
def WeevilSpeedSaid : Prop := weevilSpeedRow.holds Try.pinned (OpenSpec.ofChange weevilSpeedSpec)

/-- ITS FALSE NEIGHBOUR: 'it returns false'. Refute it at one input. -/
def weevilSpeedWrong : ChangeSpec := { name := "weevilSpeed", fn := fun _ => fun
  | [d1, d2, d3] => { results := [.lit (.bool false)], args := [d1, d2, d3] }
  | _ => none }
def WeevilSpeedWrongFalsely : Prop := weevilSpeedRow.holds Try.pinned (OpenSpec.ofChange weevilSpeedWrong)

/-- 'staddlelaw06.WeevilMore': WHATEVER THE INPUT: true; the input reads as it did. -/
def weevilMoreSpec : ChangeSpec := { name := "weevilMore", fn := fun _ => fun
  | [d1, d2, d3, d4, d5] => { results := [.lit (.bool true)], args := [d1, d2, d3, d4, d5] }
  | _ => none }
def weevilMoreRow : OpenClaim := { program := "ythfgcnmcipcbbaa", sum := "f0c1af762cccaa62ee07efac5b702a1992a147c5926aad3a1beaeabc27fa71c4", func := "staddle/staddlelaw06.WeevilMore", spec := "weevilMore", unfollowed := true, recurses := true, plainKeys := false, apart := false }
def WeevilMoreSaid : Prop := weevilMoreRow.holds Try.pinned (OpenSpec.ofChange weevilMoreSpec)

/-- ITS FALSE NEIGHBOUR: 'it returns false'. Refute it at one input. -/
def weevilMoreWrong : ChangeSpec := { name := "weevilMore", fn := fun _ => fun
  | [d1, d2, d3, d4, d5] => { results := [.lit (.bool false)], args := [d1, d2, d3, d4, d5] }
  | _ => none }
def WeevilMoreWrongFalsely : Prop := weevilMoreRow.holds Try.pinned (OpenSpec.ofChange weevilMoreWrong)

/-- 'staddlelaw06.WeevilNamed': WHATEVER THE INPUT: true; the input reads as it did. -/
def weevilNamedSpec : ChangeSpec := { name := "weevilNamed", fn := fun _ => fun
  | [d1, d2, d3] => { results := [.lit (.bool true)], args := [d1, d2, d3] }
  | _ => none }
def weevilNamedRow : OpenClaim := { program := "ythfgcnmcipcbbaa", sum := "f0c1af762cccaa62ee07efac5b702a1992a147c5926aad3a1beaeabc27fa71c4", func := "staddle/staddlelaw06.WeevilNamed", spec := "weevilNamed", inPlace := ["slices.overlaps[int]"], unfollowed := true, recurses := true, plainKeys := false, apart := false }
def WeevilNamedSaid : Prop := weevilNamedRow.holds Try.pinned (OpenSpec.ofChange weevilNamedSpec)

/-- ITS FALSE NEIGHBOUR: 'it returns false'. Refute it at one input. -/
def weevilNamedWrong : ChangeSpec := { name := "weevilNamed", fn := fun _ => fun
  | [d1, d2, d3] => { results := [.lit (.bool false)], args := [d1, d2, d3] }
  | _ => none }
def WeevilNamedWrongFalsely : Prop := weevilNamedRow.holds Try.pinned (OpenSpec.ofChange weevilNamedWrong)

/-- 'staddlelaw06.WeevilTold': WHATEVER THE INPUT: true; the input reads as it did. -/
def weevilToldSpec : ChangeSpec := { name := "weevilTold", fn := fun _ => fun
  | [d1, d2, d3] => { results := [.lit (.bool true)], args := [d1, d2, d3] }
  | _ => none }
def weevilToldRow : OpenClaim := { program := "ythfgcnmcipcbbaa", sum := "f0c1af762cccaa62ee07efac5b702a1992a147c5926aad3a1beaeabc27fa71c4", func := "staddle/staddlelaw06.WeevilTold", spec := "weevilTold", unfollowed := true, recurses := true, plainKeys := false, apart := false }
def WeevilToldSaid : Prop := weevilToldRow.holds Try.pinned (OpenSpec.ofChange weevilToldSpec)

/-- ITS FALSE NEIGHBOUR: 'it returns false'. Refute it at one input. -/
def weevilToldWrong : ChangeSpec := { name := "weevilTold", fn := fun _ => fun
  | [d1, d2, d3] => { results := [.lit (.bool false)], args := [d1, d2, d3] }
  | _ => none }
def WeevilToldWrongFalsely : Prop := weevilToldRow.holds Try.pinned (OpenSpec.ofChange weevilToldWrong)

/- THE SECOND FORM. 'bulk': how many values and letters a reading holds, each counted each time it is reached (what is shared counts as often as it is met; a slice's spare places count too). A statement '..UptoSaid' is the law's where the arguments, and the package variables that the reading takes, are together of bulk at most 1048576: NARROWER than '..Said'. Prove '..Said' where nothing that the law and all that it calls make is longer than what came in: it says more and counts as full. Else prove '..UptoSaid'. A law counts once. -/
mutual
def uptoBulk {H : Type} : DataW H → Nat
  | .lit (.string bytes) => bytes.length + 1
  | .lit _ => 1
  | .nil => 1
  | .ptr d => uptoBulk d + 1
  | .slice elems spare => uptoBulkAll elems + uptoBulkAll spare + 1
  | .agg parts => uptoBulkAll parts + 1
  | .iface _ d => uptoBulk d + 1
  | .map entries => uptoBulkEntries entries + 1
  | .held _ => 1
def uptoBulkAll {H : Type} : List (DataW H) → Nat
  | [] => 0
  | d :: r => uptoBulk d + uptoBulkAll r
def uptoBulkEntries {H : Type} : List (Lit × DataW H) → Nat
  | [] => 0
  | x :: r => uptoBulkEntry x + uptoBulkEntries r
def uptoBulkEntry {H : Type} : Lit × DataW H → Nat
  | (.string bytes, d) => bytes.length + uptoBulk d + 1
  | (_, d) => uptoBulk d + 1
 end
def uptoSmall : (H : Type) → List (DataW H) → Bool := fun _ ds => decide (uptoBulkAll ds ≤ 1048576)
def OpenSpec.upto (s : _root_.Go.ChangeSpec) : _root_.Go.OpenSpec := { _root_.Go.OpenSpec.ofChange s with cond := some uptoSmall }

/-- 'staddlelaw06.WeevilClash', WHERE WHAT IT READS IS OF BULK AT MOST 1048576: true; the input reads as it did. -/
def weevilClashUptoRow : OpenClaim := { program := "ythfgcnmcipcbbaa", sum := "f0c1af762cccaa62ee07efac5b702a1992a147c5926aad3a1beaeabc27fa71c4", func := "staddle/staddlelaw06.WeevilClash", spec := "weevilClash", unfollowed := true, recurses := true, plainKeys := false, apart := false, narrowed := true }
def WeevilClashUptoSaid : Prop := weevilClashUptoRow.holds Try.pinned (OpenSpec.upto weevilClashSpec)

/-- 'staddlelaw06.WeevilWeeks', WHERE WHAT IT READS IS OF BULK AT MOST 1048576: true; the input reads as it did. -/
def weevilWeeksUptoRow : OpenClaim := { program := "ythfgcnmcipcbbaa", sum := "f0c1af762cccaa62ee07efac5b702a1992a147c5926aad3a1beaeabc27fa71c4", func := "staddle/staddlelaw06.WeevilWeeks", spec := "weevilWeeks", unfollowed := true, recurses := true, plainKeys := false, apart := false, narrowed := true }
def WeevilWeeksUptoSaid : Prop := weevilWeeksUptoRow.holds Try.pinned (OpenSpec.upto weevilWeeksSpec)

/-- 'staddlelaw06.WeevilSpeed', WHERE WHAT IT READS IS OF BULK AT MOST 1048576: true; the input reads as it did. -/
def weevilSpeedUptoRow : OpenClaim := { program := "ythfgcnmcipcbbaa", sum := "f0c1af762cccaa62ee07efac5b702a1992a147c5926aad3a1beaeabc27fa71c4", func := "staddle/staddlelaw06.WeevilSpeed", spec := "weevilSpeed", unfollowed := true, recurses := true, plainKeys := false, apart := false, narrowed := true }
def WeevilSpeedUptoSaid : Prop := weevilSpeedUptoRow.holds Try.pinned (OpenSpec.upto weevilSpeedSpec)

/-- 'staddlelaw06.WeevilMore', WHERE WHAT IT READS IS OF BULK AT MOST 1048576: true; the input reads as it did. -/
def weevilMoreUptoRow : OpenClaim := { program := "ythfgcnmcipcbbaa", sum := "f0c1af762cccaa62ee07efac5b702a1992a147c5926aad3a1beaeabc27fa71c4", func := "staddle/staddlelaw06.WeevilMore", spec := "weevilMore", unfollowed := true, recurses := true, plainKeys := false, apart := false, narrowed := true }
def WeevilMoreUptoSaid : Prop := weevilMoreUptoRow.holds Try.pinned (OpenSpec.upto weevilMoreSpec)

/-- 'staddlelaw06.WeevilNamed', WHERE WHAT IT READS IS OF BULK AT MOST 1048576: true; the input reads as it did. -/
def weevilNamedUptoRow : OpenClaim := { program := "ythfgcnmcipcbbaa", sum := "f0c1af762cccaa62ee07efac5b702a1992a147c5926aad3a1beaeabc27fa71c4", func := "staddle/staddlelaw06.WeevilNamed", spec := "weevilNamed", inPlace := ["slices.overlaps[int]"], unfollowed := true, recurses := true, plainKeys := false, apart := false, narrowed := true }
def WeevilNamedUptoSaid : Prop := weevilNamedUptoRow.holds Try.pinned (OpenSpec.upto weevilNamedSpec)

/-- 'staddlelaw06.WeevilTold', WHERE WHAT IT READS IS OF BULK AT MOST 1048576: true; the input reads as it did. -/
def weevilToldUptoRow : OpenClaim := { program := "ythfgcnmcipcbbaa", sum := "f0c1af762cccaa62ee07efac5b702a1992a147c5926aad3a1beaeabc27fa71c4", func := "staddle/staddlelaw06.WeevilTold", spec := "weevilTold", unfollowed := true, recurses := true, plainKeys := false, apart := false, narrowed := true }
def WeevilToldUptoSaid : Prop := weevilToldUptoRow.holds Try.pinned (OpenSpec.upto weevilToldSpec)

end Rows
end Go.Proofs.Ythfgcnmcipcbbaa
