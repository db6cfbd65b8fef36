/-
  No cell of these rows narrows 'for every input' (looked for: loops, veiled, ifaces, maps, wideKeys, modest, calm, conditions, laid).
  DERIVED. THE GIVEN ROWS OF THIS SEAT. 13 by the template 'for every input the law returns true; each argument reads behind the call as it read before'; 0 by the template 'total and deterministic' (their statements: YtelegnmfhjfbaaaTotals.lean).
  GIVEN WITH THE SEED: the statements are not yours to turn. If you find one false, say at which input.
  Laid BY PROGRAM, IN A SANDBOX (cutbox-rows.mjs): the forced cells as the released guide's own fill.sh prints them over the translation 9265bcc7c33df2a3… (all of the seat's roots in one cut). By AI agents, Wed Nov 11 2026. No macro, syntax, notation, axiom, sorry.
-/
import Derived.Test.YtelegnmfhjfbaaaChecked
import GoSem.Claim
import GoSem.ClaimJoined
import GoSem.ClaimMapViews
import Derived.JoinedTies
import Derived.KernelRfl
namespace Go.Proofs.Ytelegnmfhjfbaaa
/- THE CELL 'sum', in the pinned program and in every row, IS THE sha256 OF THE DUMP (.gsa) THAT YtelegnmfhjfbaaaProg.lean LOADS. Nothing in Lean hashes anything: it is a label: what it is worth is what the hold of that sum in a sandbox is worth. -/
noncomputable def Try.pinned : Pinned := { name := "ytelegnmfhjfbaaa", sum := "9265bcc7c33df2a3efaeb18a8f0b7d5c4bdf25a4be38dbca0ebb1fbd8d80ff61", checked := Try.checked }
namespace Rows
def none {H : Type} : Left H := { results := [], args := [] }

/-- 'staddlelaw04.HeatPlans': WHATEVER THE INPUT: true; the input reads as it did. -/
def heatPlansSpec : ChangeSpec := { name := "heatPlans", fn := fun _ => fun
  | [d1, d2, d3] => { results := [.lit (.bool true)], args := [d1, d2, d3] }
  | _ => none }
def heatPlansRow : OpenClaim := { program := "ytelegnmfhjfbaaa", sum := "9265bcc7c33df2a3efaeb18a8f0b7d5c4bdf25a4be38dbca0ebb1fbd8d80ff61", func := "staddle/staddlelaw04.HeatPlans", spec := "heatPlans", unfollowed := true, recurses := true, plainKeys := false, apart := false }
def HeatPlansSaid : Prop := heatPlansRow.holds Try.pinned (OpenSpec.ofChange heatPlansSpec)

/-- ITS FALSE NEIGHBOUR: 'it returns false'. Refute it at one input. -/
def heatPlansWrong : ChangeSpec := { name := "heatPlans", fn := fun _ => fun
  | [d1, d2, d3] => { results := [.lit (.bool false)], args := [d1, d2, d3] }
  | _ => none }
def HeatPlansWrongFalsely : Prop := heatPlansRow.holds Try.pinned (OpenSpec.ofChange heatPlansWrong)

/-- 'staddlelaw04.HeatLongest': WHATEVER THE INPUT: true; the input reads as it did. -/
def heatLongestSpec : ChangeSpec := { name := "heatLongest", fn := fun _ => fun
  | [d] => { results := [.lit (.bool true)], args := [d] }
  | _ => none }
def heatLongestRow : OpenClaim := { program := "ytelegnmfhjfbaaa", sum := "9265bcc7c33df2a3efaeb18a8f0b7d5c4bdf25a4be38dbca0ebb1fbd8d80ff61", func := "staddle/staddlelaw04.HeatLongest", spec := "heatLongest", unfollowed := true, recurses := true, plainKeys := false, apart := false }
def HeatLongestSaid : Prop := heatLongestRow.holds Try.pinned (OpenSpec.ofChange heatLongestSpec)

/-- ITS FALSE NEIGHBOUR: 'it returns false'. Refute it at one input. -/
def heatLongestWrong : ChangeSpec := { name := "heatLongest", fn := fun _ => fun
  | [d] => { results := [.lit (.bool false)], args := [d] }
  | _ => none }
def HeatLongestWrongFalsely : Prop := heatLongestRow.holds Try.pinned (OpenSpec.ofChange heatLongestWrong)

/-- 'staddlelaw04.HeatFewest': WHATEVER THE INPUT: true; the input reads as it did. -/
def heatFewestSpec : ChangeSpec := { name := "heatFewest", fn := fun _ => fun
  | [d1, d2] => { results := [.lit (.bool true)], args := [d1, d2] }
  | _ => none }
def heatFewestRow : OpenClaim := { program := "ytelegnmfhjfbaaa", sum := "9265bcc7c33df2a3efaeb18a8f0b7d5c4bdf25a4be38dbca0ebb1fbd8d80ff61", func := "staddle/staddlelaw04.HeatFewest", spec := "heatFewest", unfollowed := true, recurses := true, plainKeys := false, apart := false }
def HeatFewestSaid : Prop := heatFewestRow.holds Try.pinned (OpenSpec.ofChange heatFewestSpec)

/-- ITS FALSE NEIGHBOUR: 'it returns false'. Refute it at one input. -/
def heatFewestWrong : ChangeSpec := { name := "heatFewest", fn := fun _ => fun
  | [d1, d2] => { results := [.lit (.bool false)], args := [d1, d2] }
  | _ => none }
def HeatFewestWrongFalsely : Prop := heatFewestRow.holds Try.pinned (OpenSpec.ofChange heatFewestWrong)

/-- 'staddlelaw04.HeatRounds': WHATEVER THE INPUT: true; the input reads as it did. -/
def heatRoundsSpec : ChangeSpec := { name := "heatRounds", fn := fun _ => fun
  | [d1, d2, d3] => { results := [.lit (.bool true)], args := [d1, d2, d3] }
  | _ => none }
def heatRoundsRow : OpenClaim := { program := "ytelegnmfhjfbaaa", sum := "9265bcc7c33df2a3efaeb18a8f0b7d5c4bdf25a4be38dbca0ebb1fbd8d80ff61", func := "staddle/staddlelaw04.HeatRounds", spec := "heatRounds", unfollowed := true, recurses := true, plainKeys := false, apart := false }
def HeatRoundsSaid : Prop := heatRoundsRow.holds Try.pinned (OpenSpec.ofChange heatRoundsSpec)

/-- ITS FALSE NEIGHBOUR: 'it returns false'. Refute it at one input. -/
def heatRoundsWrong : ChangeSpec := { name := "heatRounds", fn := fun _ => fun
  | [d1, d2, d3] => { results := [.lit (.bool false)], args := [d1, d2, d3] }
  | _ => none }
def HeatRoundsWrongFalsely : Prop := heatRoundsRow.holds Try.pinned (OpenSpec.ofChange heatRoundsWrong)

/-- 'staddlelaw04.HeatMore': WHATEVER THE INPUT: true; the input reads as it did. -/
def heatMoreSpec : ChangeSpec := { name := "heatMore", fn := fun _ => fun
  | [d1, d2, d3, d4] => { results := [.lit (.bool true)], args := [d1, d2, d3, d4] }
  | _ => none }
def heatMoreRow : OpenClaim := { program := "ytelegnmfhjfbaaa", sum := "9265bcc7c33df2a3efaeb18a8f0b7d5c4bdf25a4be38dbca0ebb1fbd8d80ff61", func := "staddle/staddlelaw04.HeatMore", spec := "heatMore", unfollowed := true, recurses := true, plainKeys := false, apart := false }
def HeatMoreSaid : Prop := heatMoreRow.holds Try.pinned (OpenSpec.ofChange heatMoreSpec)

/-- ITS FALSE NEIGHBOUR: 'it returns false'. Refute it at one input. -/
def heatMoreWrong : ChangeSpec := { name := "heatMore", fn := fun _ => fun
  | [d1, d2, d3, d4] => { results := [.lit (.bool false)], args := [d1, d2, d3, d4] }
  | _ => none }
def HeatMoreWrongFalsely : Prop := heatMoreRow.holds Try.pinned (OpenSpec.ofChange heatMoreWrong)

/-- 'staddlelaw04.HeatChecks': WHATEVER THE INPUT: true; the input reads as it did. -/
def heatChecksSpec : ChangeSpec := { name := "heatChecks", fn := fun _ => fun
  | [d1, d2, d3] => { results := [.lit (.bool true)], args := [d1, d2, d3] }
  | _ => none }
def heatChecksRow : OpenClaim := { program := "ytelegnmfhjfbaaa", sum := "9265bcc7c33df2a3efaeb18a8f0b7d5c4bdf25a4be38dbca0ebb1fbd8d80ff61", func := "staddle/staddlelaw04.HeatChecks", spec := "heatChecks", unfollowed := true, recurses := true, plainKeys := false, apart := false }
def HeatChecksSaid : Prop := heatChecksRow.holds Try.pinned (OpenSpec.ofChange heatChecksSpec)

/-- ITS FALSE NEIGHBOUR: 'it returns false'. Refute it at one input. -/
def heatChecksWrong : ChangeSpec := { name := "heatChecks", fn := fun _ => fun
  | [d1, d2, d3] => { results := [.lit (.bool false)], args := [d1, d2, d3] }
  | _ => none }
def HeatChecksWrongFalsely : Prop := heatChecksRow.holds Try.pinned (OpenSpec.ofChange heatChecksWrong)

/-- 'staddlelaw04.HeatSpare': WHATEVER THE INPUT: true; the input reads as it did. -/
def heatSpareSpec : ChangeSpec := { name := "heatSpare", fn := fun _ => fun
  | [d] => { results := [.lit (.bool true)], args := [d] }
  | _ => none }
def heatSpareRow : OpenClaim := { program := "ytelegnmfhjfbaaa", sum := "9265bcc7c33df2a3efaeb18a8f0b7d5c4bdf25a4be38dbca0ebb1fbd8d80ff61", func := "staddle/staddlelaw04.HeatSpare", spec := "heatSpare", unfollowed := true, recurses := true, plainKeys := false, apart := false }
def HeatSpareSaid : Prop := heatSpareRow.holds Try.pinned (OpenSpec.ofChange heatSpareSpec)

/-- ITS FALSE NEIGHBOUR: 'it returns false'. Refute it at one input. -/
def heatSpareWrong : ChangeSpec := { name := "heatSpare", fn := fun _ => fun
  | [d] => { results := [.lit (.bool false)], args := [d] }
  | _ => none }
def HeatSpareWrongFalsely : Prop := heatSpareRow.holds Try.pinned (OpenSpec.ofChange heatSpareWrong)

/-- 'staddlelaw04.HeatNamed': WHATEVER THE INPUT: true; the input reads as it did. -/
def heatNamedSpec : ChangeSpec := { name := "heatNamed", fn := fun _ => fun
  | [d1, d2, d3] => { results := [.lit (.bool true)], args := [d1, d2, d3] }
  | _ => none }
def heatNamedRow : OpenClaim := { program := "ytelegnmfhjfbaaa", sum := "9265bcc7c33df2a3efaeb18a8f0b7d5c4bdf25a4be38dbca0ebb1fbd8d80ff61", func := "staddle/staddlelaw04.HeatNamed", spec := "heatNamed", inPlace := ["slices.overlaps[int]"], unfollowed := true, recurses := true, plainKeys := false, apart := false }
def HeatNamedSaid : Prop := heatNamedRow.holds Try.pinned (OpenSpec.ofChange heatNamedSpec)

/-- ITS FALSE NEIGHBOUR: 'it returns false'. Refute it at one input. -/
def heatNamedWrong : ChangeSpec := { name := "heatNamed", fn := fun _ => fun
  | [d1, d2, d3] => { results := [.lit (.bool false)], args := [d1, d2, d3] }
  | _ => none }
def HeatNamedWrongFalsely : Prop := heatNamedRow.holds Try.pinned (OpenSpec.ofChange heatNamedWrong)

/-- 'staddlelaw04.HeatWalls': WHATEVER THE INPUT: true; the input reads as it did. -/
def heatWallsSpec : ChangeSpec := { name := "heatWalls", fn := fun _ => fun
  | [d1, d2] => { results := [.lit (.bool true)], args := [d1, d2] }
  | _ => none }
def heatWallsRow : OpenClaim := { program := "ytelegnmfhjfbaaa", sum := "9265bcc7c33df2a3efaeb18a8f0b7d5c4bdf25a4be38dbca0ebb1fbd8d80ff61", func := "staddle/staddlelaw04.HeatWalls", spec := "heatWalls", unfollowed := true, recurses := true, plainKeys := false, apart := false }
def HeatWallsSaid : Prop := heatWallsRow.holds Try.pinned (OpenSpec.ofChange heatWallsSpec)

/-- ITS FALSE NEIGHBOUR: 'it returns false'. Refute it at one input. -/
def heatWallsWrong : ChangeSpec := { name := "heatWalls", fn := fun _ => fun
  | [d1, d2] => { results := [.lit (.bool false)], args := [d1, d2] }
  | _ => none }
def HeatWallsWrongFalsely : Prop := heatWallsRow.holds Try.pinned (OpenSpec.ofChange heatWallsWrong)

/-- 'staddlelaw04.HeatWalled': WHATEVER THE INPUT: true; the input reads as it did. -/
def heatWalledSpec : ChangeSpec := { name := "heatWalled", fn := fun _ => fun
  | [d1, d2] => { results := [.lit (.bool true)], args := [d1, d2] }
  | _ => none }
def heatWalledRow : OpenClaim := { program := "ytelegnmfhjfbaaa", sum := "9265bcc7c33df2a3efaeb18a8f0b7d5c4bdf25a4be38dbca0ebb1fbd8d80ff61", func := "staddle/staddlelaw04.HeatWalled", spec := "heatWalled", unfollowed := true, recurses := true, plainKeys := false, apart := false }
def HeatWalledSaid : Prop := heatWalledRow.holds Try.pinned (OpenSpec.ofChange heatWalledSpec)

/-- ITS FALSE NEIGHBOUR: 'it returns false'. Refute it at one input. -/
def heatWalledWrong : ChangeSpec := { name := "heatWalled", fn := fun _ => fun
  | [d1, d2] => { results := [.lit (.bool false)], args := [d1, d2] }
  | _ => none }
def HeatWalledWrongFalsely : Prop := heatWalledRow.holds Try.pinned (OpenSpec.ofChange heatWalledWrong)

/-- 'staddlelaw04.HeatTried': WHATEVER THE INPUT: true; the input reads as it did. -/
def heatTriedSpec : ChangeSpec := { name := "heatTried", fn := fun _ => fun
  | [d1, d2] => { results := [.lit (.bool true)], args := [d1, d2] }
  | _ => none }
def heatTriedRow : OpenClaim := { program := "ytelegnmfhjfbaaa", sum := "9265bcc7c33df2a3efaeb18a8f0b7d5c4bdf25a4be38dbca0ebb1fbd8d80ff61", func := "staddle/staddlelaw04.HeatTried", spec := "heatTried", inPlace := ["slices.overlaps[int]"], unfollowed := true, recurses := true, plainKeys := false, apart := false }
def HeatTriedSaid : Prop := heatTriedRow.holds Try.pinned (OpenSpec.ofChange heatTriedSpec)

/-- ITS FALSE NEIGHBOUR: 'it returns false'. Refute it at one input. -/
def heatTriedWrong : ChangeSpec := { name := "heatTried", fn := fun _ => fun
  | [d1, d2] => { results := [.lit (.bool false)], args := [d1, d2] }
  | _ => none }
def HeatTriedWrongFalsely : Prop := heatTriedRow.holds Try.pinned (OpenSpec.ofChange heatTriedWrong)

/-- 'staddlelaw04.HeatAfter': WHATEVER THE INPUT: true; the input reads as it did. -/
def heatAfterSpec : ChangeSpec := { name := "heatAfter", fn := fun _ => fun
  | [d1, d2] => { results := [.lit (.bool true)], args := [d1, d2] }
  | _ => none }
def heatAfterRow : OpenClaim := { program := "ytelegnmfhjfbaaa", sum := "9265bcc7c33df2a3efaeb18a8f0b7d5c4bdf25a4be38dbca0ebb1fbd8d80ff61", func := "staddle/staddlelaw04.HeatAfter", spec := "heatAfter", inPlace := ["slices.overlaps[int]"], unfollowed := true, recurses := true, plainKeys := false, apart := false }
def HeatAfterSaid : Prop := heatAfterRow.holds Try.pinned (OpenSpec.ofChange heatAfterSpec)

/-- ITS FALSE NEIGHBOUR: 'it returns false'. Refute it at one input. -/
def heatAfterWrong : ChangeSpec := { name := "heatAfter", fn := fun _ => fun
  | [d1, d2] => { results := [.lit (.bool false)], args := [d1, d2] }
  | _ => none }
def HeatAfterWrongFalsely : Prop := heatAfterRow.holds Try.pinned (OpenSpec.ofChange heatAfterWrong)

/-- 'staddlelaw04.HeatWarm': WHATEVER THE INPUT: true; the input reads as it did. -/
def heatWarmSpec : ChangeSpec := { name := "heatWarm", fn := fun _ => fun
  | [d1, d2, d3] => { results := [.lit (.bool true)], args := [d1, d2, d3] }
  | _ => none }
def heatWarmRow : OpenClaim := { program := "ytelegnmfhjfbaaa", sum := "9265bcc7c33df2a3efaeb18a8f0b7d5c4bdf25a4be38dbca0ebb1fbd8d80ff61", func := "staddle/staddlelaw04.HeatWarm", spec := "heatWarm", inPlace := ["slices.overlaps[int]"], unfollowed := true, recurses := true, plainKeys := false, apart := false }
def HeatWarmSaid : Prop := heatWarmRow.holds Try.pinned (OpenSpec.ofChange heatWarmSpec)

/-- ITS FALSE NEIGHBOUR: 'it returns false'. Refute it at one input. -/
def heatWarmWrong : ChangeSpec := { name := "heatWarm", fn := fun _ => fun
  | [d1, d2, d3] => { results := [.lit (.bool false)], args := [d1, d2, d3] }
  | _ => none }
def HeatWarmWrongFalsely : Prop := heatWarmRow.holds Try.pinned (OpenSpec.ofChange heatWarmWrong)

/- THE SECOND FORM. 'bulk': how many values and letters a reading holds, each counted each time it is reached (what is shared counts as often as it is met; a slice's spare places count too). A statement '..UptoSaid' is the law's where the arguments, and the package variables that the reading takes, are together of bulk at most 1048576: NARROWER than '..Said'. Prove '..Said' where nothing that the law and all that it calls make is longer than what came in: it says more and counts as full. Else prove '..UptoSaid'. A law counts once. -/
mutual
def uptoBulk {H : Type} : DataW H → Nat
  | .lit (.string bytes) => bytes.length + 1
  | .lit _ => 1
  | .nil => 1
  | .ptr d => uptoBulk d + 1
  | .slice elems spare => uptoBulkAll elems + uptoBulkAll spare + 1
  | .agg parts => uptoBulkAll parts + 1
  | .iface _ d => uptoBulk d + 1
  | .map entries => uptoBulkEntries entries + 1
  | .held _ => 1
def uptoBulkAll {H : Type} : List (DataW H) → Nat
  | [] => 0
  | d :: r => uptoBulk d + uptoBulkAll r
def uptoBulkEntries {H : Type} : List (Lit × DataW H) → Nat
  | [] => 0
  | x :: r => uptoBulkEntry x + uptoBulkEntries r
def uptoBulkEntry {H : Type} : Lit × DataW H → Nat
  | (.string bytes, d) => bytes.length + uptoBulk d + 1
  | (_, d) => uptoBulk d + 1
 end
def uptoSmall : (H : Type) → List (DataW H) → Bool := fun _ ds => decide (uptoBulkAll ds ≤ 1048576)
def OpenSpec.upto (s : _root_.Go.ChangeSpec) : _root_.Go.OpenSpec := { _root_.Go.OpenSpec.ofChange s with cond := some uptoSmall }

/-- 'staddlelaw04.HeatPlans', WHERE WHAT IT READS IS OF BULK AT MOST 1048576: true; the input reads as it did. -/
def heatPlansUptoRow : OpenClaim := { program := "ytelegnmfhjfbaaa", sum := "9265bcc7c33df2a3efaeb18a8f0b7d5c4bdf25a4be38dbca0ebb1fbd8d80ff61", func := "staddle/staddlelaw04.HeatPlans", spec := "heatPlans", unfollowed := true, recurses := true, plainKeys := false, apart := false, narrowed := true }
def HeatPlansUptoSaid : Prop := heatPlansUptoRow.holds Try.pinned (OpenSpec.upto heatPlansSpec)

/-- 'staddlelaw04.HeatLongest', WHERE WHAT IT READS IS OF BULK AT MOST 1048576: true; the input reads as it did. -/
def heatLongestUptoRow : OpenClaim := { program := "ytelegnmfhjfbaaa", sum := "9265bcc7c33df2a3efaeb18a8f0b7d5c4bdf25a4be38dbca0ebb1fbd8d80ff61", func := "staddle/staddlelaw04.HeatLongest", spec := "heatLongest", unfollowed := true, recurses := true, plainKeys := false, apart := false, narrowed := true }
def HeatLongestUptoSaid : Prop := heatLongestUptoRow.holds Try.pinned (OpenSpec.upto heatLongestSpec)

/-- 'staddlelaw04.HeatFewest', WHERE WHAT IT READS IS OF BULK AT MOST 1048576: true; the input reads as it did. -/
def heatFewestUptoRow : OpenClaim := { program := "ytelegnmfhjfbaaa", sum := "9265bcc7c33df2a3efaeb18a8f0b7d5c4bdf25a4be38dbca0ebb1fbd8d80ff61", func := "staddle/staddlelaw04.HeatFewest", spec := "heatFewest", unfollowed := true, recurses := true, plainKeys := false, apart := false, narrowed := true }
def HeatFewestUptoSaid : Prop := heatFewestUptoRow.holds Try.pinned (OpenSpec.upto heatFewestSpec)

/-- 'staddlelaw04.HeatRounds', WHERE WHAT IT READS IS OF BULK AT MOST 1048576: true; the input reads as it did. -/
def heatRoundsUptoRow : OpenClaim := { program := "ytelegnmfhjfbaaa", sum := "9265bcc7c33df2a3efaeb18a8f0b7d5c4bdf25a4be38dbca0ebb1fbd8d80ff61", func := "staddle/staddlelaw04.HeatRounds", spec := "heatRounds", unfollowed := true, recurses := true, plainKeys := false, apart := false, narrowed := true }
def HeatRoundsUptoSaid : Prop := heatRoundsUptoRow.holds Try.pinned (OpenSpec.upto heatRoundsSpec)

/-- 'staddlelaw04.HeatMore', WHERE WHAT IT READS IS OF BULK AT MOST 1048576: true; the input reads as it did. -/
def heatMoreUptoRow : OpenClaim := { program := "ytelegnmfhjfbaaa", sum := "9265bcc7c33df2a3efaeb18a8f0b7d5c4bdf25a4be38dbca0ebb1fbd8d80ff61", func := "staddle/staddlelaw04.HeatMore", spec := "heatMore", unfollowed := true, recurses := true, plainKeys := false, apart := false, narrowed := true }
def HeatMoreUptoSaid : Prop := heatMoreUptoRow.holds Try.pinned (OpenSpec.upto heatMoreSpec)

/-- 'staddlelaw04.HeatChecks', WHERE WHAT IT READS IS OF BULK AT MOST 1048576: true; the input reads as it did. -/
def heatChecksUptoRow : OpenClaim := { program := "ytelegnmfhjfbaaa", sum := "9265bcc7c33df2a3efaeb18a8f0b7d5c4bdf25a4be38dbca0ebb1fbd8d80ff61", func := "staddle/staddlelaw04.HeatChecks", spec := "heatChecks", unfollowed := true, recurses := true, plainKeys := false, apart := false, narrowed := true }
def HeatChecksUptoSaid : Prop := heatChecksUptoRow.holds Try.pinned (OpenSpec.upto heatChecksSpec)

/-- 'staddlelaw04.HeatSpare', WHERE WHAT IT READS IS OF BULK AT MOST 1048576: true; the input reads as it did. -/
def heatSpareUptoRow : OpenClaim := { program := "ytelegnmfhjfbaaa", sum := "9265bcc7c33df2a3efaeb18a8f0b7d5c4bdf25a4be38dbca0ebb1fbd8d80ff61", func := "staddle/staddlelaw04.HeatSpare", spec := "heatSpare", unfollowed := true, recurses := true, plainKeys := false, apart := false, narrowed := true }
def HeatSpareUptoSaid : Prop := heatSpareUptoRow.holds Try.pinned (OpenSpec.upto heatSpareSpec)

/-- 'staddlelaw04.HeatNamed', WHERE WHAT IT READS IS OF BULK AT MOST 1048576: true; the input reads as it did. -/
def heatNamedUptoRow : OpenClaim := { program := "ytelegnmfhjfbaaa", sum := "9265bcc7c33df2a3efaeb18a8f0b7d5c4bdf25a4be38dbca0ebb1fbd8d80ff61", func := "staddle/staddlelaw04.HeatNamed", spec := "heatNamed", inPlace := ["slices.overlaps[int]"], unfollowed := true, recurses := true, plainKeys := false, apart := false, narrowed := true }
def HeatNamedUptoSaid : Prop := heatNamedUptoRow.holds Try.pinned (OpenSpec.upto heatNamedSpec)

/-- 'staddlelaw04.HeatWalls', WHERE WHAT IT READS IS OF BULK AT MOST 1048576: true; the input reads as it did. -/
def heatWallsUptoRow : OpenClaim := { program := "ytelegnmfhjfbaaa", sum := "9265bcc7c33df2a3efaeb18a8f0b7d5c4bdf25a4be38dbca0ebb1fbd8d80ff61", func := "staddle/staddlelaw04.HeatWalls", spec := "heatWalls", unfollowed := true, recurses := true, plainKeys := false, apart := false, narrowed := true }
def HeatWallsUptoSaid : Prop := heatWallsUptoRow.holds Try.pinned (OpenSpec.upto heatWallsSpec)

/-- 'staddlelaw04.HeatWalled', WHERE WHAT IT READS IS OF BULK AT MOST 1048576: true; the input reads as it did. -/
def heatWalledUptoRow : OpenClaim := { program := "ytelegnmfhjfbaaa", sum := "9265bcc7c33df2a3efaeb18a8f0b7d5c4bdf25a4be38dbca0ebb1fbd8d80ff61", func := "staddle/staddlelaw04.HeatWalled", spec := "heatWalled", unfollowed := true, recurses := true, plainKeys := false, apart := false, narrowed := true }
def HeatWalledUptoSaid : Prop := heatWalledUptoRow.holds Try.pinned (OpenSpec.upto heatWalledSpec)

/-- 'staddlelaw04.HeatTried', WHERE WHAT IT READS IS OF BULK AT MOST 1048576: true; the input reads as it did. -/
def heatTriedUptoRow : OpenClaim := { program := "ytelegnmfhjfbaaa", sum := "9265bcc7c33df2a3efaeb18a8f0b7d5c4bdf25a4be38dbca0ebb1fbd8d80ff61", func := "staddle/staddlelaw04.HeatTried", spec := "heatTried", inPlace := ["slices.overlaps[int]"], unfollowed := true, recurses := true, plainKeys := false, apart := false, narrowed := true }
def HeatTriedUptoSaid : Prop := heatTriedUptoRow.holds Try.pinned (OpenSpec.upto heatTriedSpec)

/-- 'staddlelaw04.HeatAfter', WHERE WHAT IT READS IS OF BULK AT MOST 1048576: true; the input reads as it did. -/
def heatAfterUptoRow : OpenClaim := { program := "ytelegnmfhjfbaaa", sum := "9265bcc7c33df2a3efaeb18a8f0b7d5c4bdf25a4be38dbca0ebb1fbd8d80ff61", func := "staddle/staddlelaw04.HeatAfter", spec := "heatAfter", inPlace := ["slices.overlaps[int]"], unfollowed := true, recurses := true, plainKeys := false, apart := false, narrowed := true }
def HeatAfterUptoSaid : Prop := heatAfterUptoRow.holds Try.pinned (OpenSpec.upto heatAfterSpec)

/-- 'staddlelaw04.HeatWarm', WHERE WHAT IT READS IS OF BULK AT MOST 1048576: true; the input reads as it did. -/
def heatWarmUptoRow : OpenClaim := { program := "ytelegnmfhjfbaaa", sum := "9265bcc7c33df2a3efaeb18a8f0b7d5c4bdf25a4be38dbca0ebb1fbd8d80ff61", func := "staddle/staddlelaw04.HeatWarm", spec := "heatWarm", inPlace := ["slices.overlaps[int]"], unfollowed := true, recurses := true, plainKeys := false, apart := false, narrowed := true }
def HeatWarmUptoSaid : Prop := heatWarmUptoRow.holds Try.pinned (OpenSpec.upto heatWarmSpec)

end Rows
end Go.Proofs.Ytelegnmfhjfbaaa
