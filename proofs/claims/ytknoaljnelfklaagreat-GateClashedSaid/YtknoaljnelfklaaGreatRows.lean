/-
  No cell of these rows narrows 'for every input' (looked for: loops, veiled, ifaces, maps, wideKeys, modest, calm, conditions, laid).
  DERIVED. THE GIVEN ROWS OF THIS SEAT. 3 by the template 'for every input the law returns true; each argument reads behind the call as it read before'; 0 by the template 'total and deterministic' (their statements: YtknoaljnelfklaaGreatTotals.lean).
  GIVEN WITH THE SEED: the statements are not yours to turn. If you find one false, say at which input.
  Laid BY PROGRAM, IN A SANDBOX (cutbox-rows.mjs): the forced cells as the released guide's own fill.sh prints them over the translation 944681be5f64aad9… (all of the seat's roots in one cut). By AI agents, Wed Nov 11 2026. No macro, syntax, notation, axiom, sorry.
-/
import Derived.Test.YtknoaljnelfklaaGreatChecked
import GoSem.Claim
import GoSem.ClaimJoined
import GoSem.ClaimMapViews
import Derived.JoinedTies
import Derived.KernelRfl
namespace Go.Proofs.YtknoaljnelfklaaGreat
/- THE CELL 'sum', in the pinned program and in every row, IS THE sha256 OF THE DUMP (.gsa) THAT YtknoaljnelfklaaGreatProg.lean LOADS. Nothing in Lean hashes anything: it is a label: what it is worth is what the hold of that sum in a sandbox is worth. -/
noncomputable def Tryz.pinned : Pinned := { name := "ytknoaljnelfklaagreat", sum := "944681be5f64aad9d48551283e138960b7f3b15ae50fd2afbac5d89496671f88", checked := Tryz.checked }
namespace Rows
def none {H : Type} : Left H := { results := [], args := [] }

/-- 'staddlelaw01.GateAgrees': WHATEVER THE INPUT: true; the input reads as it did. -/
def gateAgreesSpec : ChangeSpec := { name := "gateAgrees", fn := fun _ => fun
  | [d1, d2, d3] => { results := [.lit (.bool true)], args := [d1, d2, d3] }
  | _ => none }
def gateAgreesRow : OpenClaim := { program := "ytknoaljnelfklaagreat", sum := "944681be5f64aad9d48551283e138960b7f3b15ae50fd2afbac5d89496671f88", func := "staddle/staddlelaw01.GateAgrees", spec := "gateAgrees", unfollowed := true, recurses := true, apart := false }
def GateAgreesSaid : Prop := gateAgreesRow.holds Tryz.pinned (OpenSpec.ofChange gateAgreesSpec)

/-- ITS FALSE NEIGHBOUR: 'it returns false'. Refute it at one input. -/
def gateAgreesWrong : ChangeSpec := { name := "gateAgrees", fn := fun _ => fun
  | [d1, d2, d3] => { results := [.lit (.bool false)], args := [d1, d2, d3] }
  | _ => none }
def GateAgreesWrongFalsely : Prop := gateAgreesRow.holds Tryz.pinned (OpenSpec.ofChange gateAgreesWrong)

/-- 'staddlelaw01.GateSmall': WHATEVER THE INPUT: true; the input reads as it did. -/
def gateSmallSpec : ChangeSpec := { name := "gateSmall", fn := fun _ => fun
  | [] => { results := [.lit (.bool true)], args := [] }
  | _ => none }
def gateSmallRow : OpenClaim := { program := "ytknoaljnelfklaagreat", sum := "944681be5f64aad9d48551283e138960b7f3b15ae50fd2afbac5d89496671f88", func := "staddle/staddlelaw01.GateSmall", spec := "gateSmall", unfollowed := true, recurses := true, apart := false }
def GateSmallSaid : Prop := gateSmallRow.holds Tryz.pinned (OpenSpec.ofChange gateSmallSpec)

/-- ITS FALSE NEIGHBOUR: 'it returns false'. Refute it at one input. -/
def gateSmallWrong : ChangeSpec := { name := "gateSmall", fn := fun _ => fun
  | [] => { results := [.lit (.bool false)], args := [] }
  | _ => none }
def GateSmallWrongFalsely : Prop := gateSmallRow.holds Tryz.pinned (OpenSpec.ofChange gateSmallWrong)

/-- 'staddlelaw01.GateClashed': WHATEVER THE INPUT: true; the input reads as it did. -/
def gateClashedSpec : ChangeSpec := { name := "gateClashed", fn := fun _ => fun
  | [d1, d2, d3] => { results := [.lit (.bool true)], args := [d1, d2, d3] }
  | _ => none }
def gateClashedRow : OpenClaim := { program := "ytknoaljnelfklaagreat", sum := "944681be5f64aad9d48551283e138960b7f3b15ae50fd2afbac5d89496671f88", func := "staddle/staddlelaw01.GateClashed", spec := "gateClashed", inPlace := ["slices.overlaps[int]"], unfollowed := true, recurses := true, apart := false }
def GateClashedSaid : Prop := gateClashedRow.holds Tryz.pinned (OpenSpec.ofChange gateClashedSpec)

/-- ITS FALSE NEIGHBOUR: 'it returns false'. Refute it at one input. -/
def gateClashedWrong : ChangeSpec := { name := "gateClashed", fn := fun _ => fun
  | [d1, d2, d3] => { results := [.lit (.bool false)], args := [d1, d2, d3] }
  | _ => none }
def GateClashedWrongFalsely : Prop := gateClashedRow.holds Tryz.pinned (OpenSpec.ofChange gateClashedWrong)

/- THE SECOND FORM. 'bulk': how many values and letters a reading holds, each counted each time it is reached (what is shared counts as often as it is met; a slice's spare places count too). A statement '..UptoSaid' is the law's where the arguments, and the package variables that the reading takes, are together of bulk at most 1048576: NARROWER than '..Said'. Prove '..Said' where nothing that the law and all that it calls make is longer than what came in: it says more and counts as full. Else prove '..UptoSaid'. A law counts once. -/
mutual
def uptoBulk {H : Type} : DataW H → Nat
  | .lit (.string bytes) => bytes.length + 1
  | .lit _ => 1
  | .nil => 1
  | .ptr d => uptoBulk d + 1
  | .slice elems spare => uptoBulkAll elems + uptoBulkAll spare + 1
  | .agg parts => uptoBulkAll parts + 1
  | .iface _ d => uptoBulk d + 1
  | .map entries => uptoBulkEntries entries + 1
  | .held _ => 1
def uptoBulkAll {H : Type} : List (DataW H) → Nat
  | [] => 0
  | d :: r => uptoBulk d + uptoBulkAll r
def uptoBulkEntries {H : Type} : List (Lit × DataW H) → Nat
  | [] => 0
  | x :: r => uptoBulkEntry x + uptoBulkEntries r
def uptoBulkEntry {H : Type} : Lit × DataW H → Nat
  | (.string bytes, d) => bytes.length + uptoBulk d + 1
  | (_, d) => uptoBulk d + 1
 end
def uptoSmall : (H : Type) → List (DataW H) → Bool := fun _ ds => decide (uptoBulkAll ds ≤ 1048576)
def OpenSpec.upto (s : _root_.Go.ChangeSpec) : _root_.Go.OpenSpec := { _root_.Go.OpenSpec.ofChange s with cond := some uptoSmall }

/-- 'staddlelaw01.GateAgrees', WHERE WHAT IT READS IS OF BULK AT MOST 1048576: true; the input reads as it did. -/
def gateAgreesUptoRow : OpenClaim := { program := "ytknoaljnelfklaagreat", sum := "944681be5f64aad9d48551283e138960b7f3b15ae50fd2afbac5d89496671f88", func := "staddle/staddlelaw01.GateAgrees", spec := "gateAgrees", unfollowed := true, recurses := true, apart := false, narrowed := true }
def GateAgreesUptoSaid : Prop := gateAgreesUptoRow.holds Tryz.pinned (OpenSpec.upto gateAgreesSpec)

/-- 'staddlelaw01.GateSmall', WHERE WHAT IT READS IS OF BULK AT MOST 1048576: true; the input reads as it did. -/
def gateSmallUptoRow : OpenClaim := { program := "ytknoaljnelfklaagreat", sum := "944681be5f64aad9d48551283e138960b7f3b15ae50fd2afbac5d89496671f88", func := "staddle/staddlelaw01.GateSmall", spec := "gateSmall", unfollowed := true, recurses := true, apart := false, narrowed := true }
def GateSmallUptoSaid : Prop := gateSmallUptoRow.holds Tryz.pinned (OpenSpec.upto gateSmallSpec)

/-- 'staddlelaw01.GateClashed', WHERE WHAT IT READS IS OF BULK AT MOST 1048576: true; the input reads as it did. -/
def gateClashedUptoRow : OpenClaim := { program := "ytknoaljnelfklaagreat", sum := "944681be5f64aad9d48551283e138960b7f3b15ae50fd2afbac5d89496671f88", func := "staddle/staddlelaw01.GateClashed", spec := "gateClashed", inPlace := ["slices.overlaps[int]"], unfollowed := true, recurses := true, apart := false, narrowed := true }
def GateClashedUptoSaid : Prop := gateClashedUptoRow.holds Tryz.pinned (OpenSpec.upto gateClashedSpec)

end Rows
end Go.Proofs.YtknoaljnelfklaaGreat
