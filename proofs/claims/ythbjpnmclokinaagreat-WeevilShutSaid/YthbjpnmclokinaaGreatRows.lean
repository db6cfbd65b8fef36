/-
  No cell of these rows narrows 'for every input' (looked for: loops, veiled, ifaces, maps, wideKeys, modest, calm, conditions, laid).
  DERIVED. THE GIVEN ROWS OF THIS SEAT. 6 by the template 'for every input the law returns true; each argument reads behind the call as it read before'; 0 by the template 'total and deterministic' (their statements: YthbjpnmclokinaaGreatTotals.lean).
  GIVEN WITH THE SEED: the statements are not yours to turn. If you find one false, say at which input.
  Laid BY PROGRAM, IN A SANDBOX (cutbox-rows.mjs): the forced cells as the released guide's own fill.sh prints them over the translation 1d10d1cf0f2d631f… (all of the seat's roots in one cut). By AI agents, Wed Nov 11 2026. No macro, syntax, notation, axiom, sorry.
-/
import Derived.Test.YthbjpnmclokinaaGreatChecked
import GoSem.Claim
import GoSem.ClaimJoined
import GoSem.ClaimMapViews
import Derived.JoinedTies
import Derived.KernelRfl
namespace Go.Proofs.YthbjpnmclokinaaGreat
/- THE CELL 'sum', in the pinned program and in every row, IS THE sha256 OF THE DUMP (.gsa) THAT YthbjpnmclokinaaGreatProg.lean LOADS. Nothing in Lean hashes anything: it is a label: what it is worth is what the hold of that sum in a sandbox is worth. -/
noncomputable def Tryz.pinned : Pinned := { name := "ythbjpnmclokinaagreat", sum := "1d10d1cf0f2d631f77bc198c33e463f63dd86ea8181d73208d4a38a8c9f5a1af", checked := Tryz.checked }
namespace Rows
def none {H : Type} : Left H := { results := [], args := [] }

/-- 'staddlelaw06.WeevilSaves': WHATEVER THE INPUT: true; the input reads as it did. -/
def weevilSavesSpec : ChangeSpec := { name := "weevilSaves", fn := fun _ => fun
  | [d1, d2, d3, d4, d5] => { results := [.lit (.bool true)], args := [d1, d2, d3, d4, d5] }
  | _ => none }
def weevilSavesRow : OpenClaim := { program := "ythbjpnmclokinaagreat", sum := "1d10d1cf0f2d631f77bc198c33e463f63dd86ea8181d73208d4a38a8c9f5a1af", func := "staddle/staddlelaw06.WeevilSaves", spec := "weevilSaves", unfollowed := true, recurses := true, plainKeys := false, apart := false }
def WeevilSavesSaid : Prop := weevilSavesRow.holds Tryz.pinned (OpenSpec.ofChange weevilSavesSpec)

/-- ITS FALSE NEIGHBOUR: 'it returns false'. Refute it at one input. -/
def weevilSavesWrong : ChangeSpec := { name := "weevilSaves", fn := fun _ => fun
  | [d1, d2, d3, d4, d5] => { results := [.lit (.bool false)], args := [d1, d2, d3, d4, d5] }
  | _ => none }
def WeevilSavesWrongFalsely : Prop := weevilSavesRow.holds Tryz.pinned (OpenSpec.ofChange weevilSavesWrong)

/-- 'staddlelaw06.WeevilCuts': WHATEVER THE INPUT: true; the input reads as it did. -/
def weevilCutsSpec : ChangeSpec := { name := "weevilCuts", fn := fun _ => fun
  | [d1, d2, d3, d4, d5] => { results := [.lit (.bool true)], args := [d1, d2, d3, d4, d5] }
  | _ => none }
def weevilCutsRow : OpenClaim := { program := "ythbjpnmclokinaagreat", sum := "1d10d1cf0f2d631f77bc198c33e463f63dd86ea8181d73208d4a38a8c9f5a1af", func := "staddle/staddlelaw06.WeevilCuts", spec := "weevilCuts", unfollowed := true, recurses := true, plainKeys := false, apart := false }
def WeevilCutsSaid : Prop := weevilCutsRow.holds Tryz.pinned (OpenSpec.ofChange weevilCutsSpec)

/-- ITS FALSE NEIGHBOUR: 'it returns false'. Refute it at one input. -/
def weevilCutsWrong : ChangeSpec := { name := "weevilCuts", fn := fun _ => fun
  | [d1, d2, d3, d4, d5] => { results := [.lit (.bool false)], args := [d1, d2, d3, d4, d5] }
  | _ => none }
def WeevilCutsWrongFalsely : Prop := weevilCutsRow.holds Tryz.pinned (OpenSpec.ofChange weevilCutsWrong)

/-- 'staddlelaw06.WeevilChecks': WHATEVER THE INPUT: true; the input reads as it did. -/
def weevilChecksSpec : ChangeSpec := { name := "weevilChecks", fn := fun _ => fun
  | [d1, d2, d3, d4] => { results := [.lit (.bool true)], args := [d1, d2, d3, d4] }
  | _ => none }
def weevilChecksRow : OpenClaim := { program := "ythbjpnmclokinaagreat", sum := "1d10d1cf0f2d631f77bc198c33e463f63dd86ea8181d73208d4a38a8c9f5a1af", func := "staddle/staddlelaw06.WeevilChecks", spec := "weevilChecks", unfollowed := true, recurses := true, plainKeys := false, apart := false }
def WeevilChecksSaid : Prop := weevilChecksRow.holds Tryz.pinned (OpenSpec.ofChange weevilChecksSpec)

/-- ITS FALSE NEIGHBOUR: 'it returns false'. Refute it at one input. -/
def weevilChecksWrong : ChangeSpec := { name := "weevilChecks", fn := fun _ => fun
  | [d1, d2, d3, d4] => { results := [.lit (.bool false)], args := [d1, d2, d3, d4] }
  | _ => none }
def WeevilChecksWrongFalsely : Prop := weevilChecksRow.holds Tryz.pinned (OpenSpec.ofChange weevilChecksWrong)

/-- 'staddlelaw06.WeevilOrigins': WHATEVER THE INPUT: true; the input reads as it did. -/
def weevilOriginsSpec : ChangeSpec := { name := "weevilOrigins", fn := fun _ => fun
  | [d1, d2] => { results := [.lit (.bool true)], args := [d1, d2] }
  | _ => none }
def weevilOriginsRow : OpenClaim := { program := "ythbjpnmclokinaagreat", sum := "1d10d1cf0f2d631f77bc198c33e463f63dd86ea8181d73208d4a38a8c9f5a1af", func := "staddle/staddlelaw06.WeevilOrigins", spec := "weevilOrigins", unfollowed := true, recurses := true, plainKeys := false, apart := false }
def WeevilOriginsSaid : Prop := weevilOriginsRow.holds Tryz.pinned (OpenSpec.ofChange weevilOriginsSpec)

/-- ITS FALSE NEIGHBOUR: 'it returns false'. Refute it at one input. -/
def weevilOriginsWrong : ChangeSpec := { name := "weevilOrigins", fn := fun _ => fun
  | [d1, d2] => { results := [.lit (.bool false)], args := [d1, d2] }
  | _ => none }
def WeevilOriginsWrongFalsely : Prop := weevilOriginsRow.holds Tryz.pinned (OpenSpec.ofChange weevilOriginsWrong)

/-- 'staddlelaw06.WeevilShut': WHATEVER THE INPUT: true; the input reads as it did. -/
def weevilShutSpec : ChangeSpec := { name := "weevilShut", fn := fun _ => fun
  | [d1, d2] => { results := [.lit (.bool true)], args := [d1, d2] }
  | _ => none }
def weevilShutRow : OpenClaim := { program := "ythbjpnmclokinaagreat", sum := "1d10d1cf0f2d631f77bc198c33e463f63dd86ea8181d73208d4a38a8c9f5a1af", func := "staddle/staddlelaw06.WeevilShut", spec := "weevilShut", unfollowed := true, recurses := true, plainKeys := false, apart := false }
def WeevilShutSaid : Prop := weevilShutRow.holds Tryz.pinned (OpenSpec.ofChange weevilShutSpec)

/-- ITS FALSE NEIGHBOUR: 'it returns false'. Refute it at one input. -/
def weevilShutWrong : ChangeSpec := { name := "weevilShut", fn := fun _ => fun
  | [d1, d2] => { results := [.lit (.bool false)], args := [d1, d2] }
  | _ => none }
def WeevilShutWrongFalsely : Prop := weevilShutRow.holds Tryz.pinned (OpenSpec.ofChange weevilShutWrong)

/-- 'staddlelaw06.WeevilRace': WHATEVER THE INPUT: true; the input reads as it did. -/
def weevilRaceSpec : ChangeSpec := { name := "weevilRace", fn := fun _ => fun
  | [d1, d2, d3, d4] => { results := [.lit (.bool true)], args := [d1, d2, d3, d4] }
  | _ => none }
def weevilRaceRow : OpenClaim := { program := "ythbjpnmclokinaagreat", sum := "1d10d1cf0f2d631f77bc198c33e463f63dd86ea8181d73208d4a38a8c9f5a1af", func := "staddle/staddlelaw06.WeevilRace", spec := "weevilRace", inPlace := ["slices.overlaps[int]"], unfollowed := true, recurses := true, plainKeys := false, apart := false }
def WeevilRaceSaid : Prop := weevilRaceRow.holds Tryz.pinned (OpenSpec.ofChange weevilRaceSpec)

/-- ITS FALSE NEIGHBOUR: 'it returns false'. Refute it at one input. -/
def weevilRaceWrong : ChangeSpec := { name := "weevilRace", fn := fun _ => fun
  | [d1, d2, d3, d4] => { results := [.lit (.bool false)], args := [d1, d2, d3, d4] }
  | _ => none }
def WeevilRaceWrongFalsely : Prop := weevilRaceRow.holds Tryz.pinned (OpenSpec.ofChange weevilRaceWrong)

/- THE SECOND FORM. 'bulk': how many values and letters a reading holds, each counted each time it is reached (what is shared counts as often as it is met; a slice's spare places count too). A statement '..UptoSaid' is the law's where the arguments, and the package variables that the reading takes, are together of bulk at most 1048576: NARROWER than '..Said'. Prove '..Said' where nothing that the law and all that it calls make is longer than what came in: it says more and counts as full. Else prove '..UptoSaid'. A law counts once. -/
mutual
def uptoBulk {H : Type} : DataW H → Nat
  | .lit (.string bytes) => bytes.length + 1
  | .lit _ => 1
  | .nil => 1
  | .ptr d => uptoBulk d + 1
  | .slice elems spare => uptoBulkAll elems + uptoBulkAll spare + 1
  | .agg parts => uptoBulkAll parts + 1
  | .iface _ d => uptoBulk d + 1
  | .map entries => uptoBulkEntries entries + 1
  | .held _ => 1
def uptoBulkAll {H : Type} : List (DataW H) → Nat
  | [] => 0
  | d :: r => uptoBulk d + uptoBulkAll r
def uptoBulkEntries {H : Type} : List (Lit × DataW H) → Nat
  | [] => 0
  | x :: r => uptoBulkEntry x + uptoBulkEntries r
def uptoBulkEntry {H : Type} : Lit × DataW H → Nat
  | (.string bytes, d) => bytes.length + uptoBulk d + 1
  | (_, d) => uptoBulk d + 1
 end
def uptoSmall : (H : Type) → List (DataW H) → Bool := fun _ ds => decide (uptoBulkAll ds ≤ 1048576)
def OpenSpec.upto (s : _root_.Go.ChangeSpec) : _root_.Go.OpenSpec := { _root_.Go.OpenSpec.ofChange s with cond := some uptoSmall }

/-- 'staddlelaw06.WeevilSaves', WHERE WHAT IT READS IS OF BULK AT MOST 1048576: true; the input reads as it did. -/
def weevilSavesUptoRow : OpenClaim := { program := "ythbjpnmclokinaagreat", sum := "1d10d1cf0f2d631f77bc198c33e463f63dd86ea8181d73208d4a38a8c9f5a1af", func := "staddle/staddlelaw06.WeevilSaves", spec := "weevilSaves", unfollowed := true, recurses := true, plainKeys := false, apart := false, narrowed := true }
def WeevilSavesUptoSaid : Prop := weevilSavesUptoRow.holds Tryz.pinned (OpenSpec.upto weevilSavesSpec)

/-- 'staddlelaw06.WeevilCuts', WHERE WHAT IT READS IS OF BULK AT MOST 1048576: true; the input reads as it did. -/
def weevilCutsUptoRow : OpenClaim := { program := "ythbjpnmclokinaagreat", sum := "1d10d1cf0f2d631f77bc198c33e463f63dd86ea8181d73208d4a38a8c9f5a1af", func := "staddle/staddlelaw06.WeevilCuts", spec := "weevilCuts", unfollowed := true, recurses := true, plainKeys := false, apart := false, narrowed := true }
def WeevilCutsUptoSaid : Prop := weevilCutsUptoRow.holds Tryz.pinned (OpenSpec.upto weevilCutsSpec)

/-- 'staddlelaw06.WeevilChecks', WHERE WHAT IT READS IS OF BULK AT MOST 1048576: true; the input reads as it did. -/
def weevilChecksUptoRow : OpenClaim := { program := "ythbjpnmclokinaagreat", sum := "1d10d1cf0f2d631f77bc198c33e463f63dd86ea8181d73208d4a38a8c9f5a1af", func := "staddle/staddlelaw06.WeevilChecks", spec := "weevilChecks", unfollowed := true, recurses := true, plainKeys := false, apart := false, narrowed := true }
def WeevilChecksUptoSaid : Prop := weevilChecksUptoRow.holds Tryz.pinned (OpenSpec.upto weevilChecksSpec)

/-- 'staddlelaw06.WeevilOrigins', WHERE WHAT IT READS IS OF BULK AT MOST 1048576: true; the input reads as it did. -/
def weevilOriginsUptoRow : OpenClaim := { program := "ythbjpnmclokinaagreat", sum := "1d10d1cf0f2d631f77bc198c33e463f63dd86ea8181d73208d4a38a8c9f5a1af", func := "staddle/staddlelaw06.WeevilOrigins", spec := "weevilOrigins", unfollowed := true, recurses := true, plainKeys := false, apart := false, narrowed := true }
def WeevilOriginsUptoSaid : Prop := weevilOriginsUptoRow.holds Tryz.pinned (OpenSpec.upto weevilOriginsSpec)

/-- 'staddlelaw06.WeevilShut', WHERE WHAT IT READS IS OF BULK AT MOST 1048576: true; the input reads as it did. -/
def weevilShutUptoRow : OpenClaim := { program := "ythbjpnmclokinaagreat", sum := "1d10d1cf0f2d631f77bc198c33e463f63dd86ea8181d73208d4a38a8c9f5a1af", func := "staddle/staddlelaw06.WeevilShut", spec := "weevilShut", unfollowed := true, recurses := true, plainKeys := false, apart := false, narrowed := true }
def WeevilShutUptoSaid : Prop := weevilShutUptoRow.holds Tryz.pinned (OpenSpec.upto weevilShutSpec)

/-- 'staddlelaw06.WeevilRace', WHERE WHAT IT READS IS OF BULK AT MOST 1048576: true; the input reads as it did. -/
def weevilRaceUptoRow : OpenClaim := { program := "ythbjpnmclokinaagreat", sum := "1d10d1cf0f2d631f77bc198c33e463f63dd86ea8181d73208d4a38a8c9f5a1af", func := "staddle/staddlelaw06.WeevilRace", spec := "weevilRace", inPlace := ["slices.overlaps[int]"], unfollowed := true, recurses := true, plainKeys := false, apart := false, narrowed := true }
def WeevilRaceUptoSaid : Prop := weevilRaceUptoRow.holds Tryz.pinned (OpenSpec.upto weevilRaceSpec)

end Rows
end Go.Proofs.YthbjpnmclokinaaGreat
