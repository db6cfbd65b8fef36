/-
  No cell of these rows narrows 'for every input' (looked for: loops, veiled, ifaces, maps, wideKeys, modest, calm, conditions, laid).
  DERIVED. THE GIVEN ROWS OF THIS SEAT. 3 by the template 'for every input the law returns true; each argument reads behind the call as it read before'; 0 by the template 'total and deterministic' (their statements: YtcfdanhklbklkaaGreatTotals.lean).
  GIVEN WITH THE SEED: the statements are not yours to turn. If you find one false, say at which input.
  Laid BY PROGRAM, IN A SANDBOX (cutbox-rows.mjs): the forced cells as the released guide's own fill.sh prints them over the translation e2860ad59d770d6a… (all of the seat's roots in one cut). By AI agents, Wed Nov 11 2026. No macro, syntax, notation, axiom, sorry.
-/
import Derived.Test.YtcfdanhklbklkaaGreatChecked
import GoSem.Claim
import GoSem.ClaimJoined
import GoSem.ClaimMapViews
import Derived.JoinedTies
import Derived.KernelRfl
namespace Go.Proofs.YtcfdanhklbklkaaGreat
/- THE CELL 'sum', in the pinned program and in every row, IS THE sha256 OF THE DUMP (.gsa) THAT YtcfdanhklbklkaaGreatProg.lean LOADS. Nothing in Lean hashes anything: it is a label: what it is worth is what the hold of that sum in a sandbox is worth. -/
noncomputable def Tryz.pinned : Pinned := { name := "ytcfdanhklbklkaagreat", sum := "e2860ad59d770d6ab8a80353e4ae54f423c0f0cfe33667d6efc6e1119e50e9e2", checked := Tryz.checked }
namespace Rows
def none {H : Type} : Left H := { results := [], args := [] }

/-- 'staddletop.TopRounds': WHATEVER THE INPUT: true; the input reads as it did. -/
def topRoundsSpec : ChangeSpec := { name := "topRounds", fn := fun _ => fun
  | [d1, d2] => { results := [.lit (.bool true)], args := [d1, d2] }
  | _ => none }
def topRoundsRow : OpenClaim := { program := "ytcfdanhklbklkaagreat", sum := "e2860ad59d770d6ab8a80353e4ae54f423c0f0cfe33667d6efc6e1119e50e9e2", func := "staddle/staddletop.TopRounds", spec := "topRounds", inPlace := ["slices.overlaps[int]"], unfollowed := true, recurses := true, plainKeys := false, apart := false }
def TopRoundsSaid : Prop := topRoundsRow.holds Tryz.pinned (OpenSpec.ofChange topRoundsSpec)

/-- ITS FALSE NEIGHBOUR: 'it returns false'. Refute it at one input. -/
def topRoundsWrong : ChangeSpec := { name := "topRounds", fn := fun _ => fun
  | [d1, d2] => { results := [.lit (.bool false)], args := [d1, d2] }
  | _ => none }
def TopRoundsWrongFalsely : Prop := topRoundsRow.holds Tryz.pinned (OpenSpec.ofChange topRoundsWrong)

/-- 'staddletop.TopDelivered': WHATEVER THE INPUT: true; the input reads as it did. -/
def topDeliveredSpec : ChangeSpec := { name := "topDelivered", fn := fun _ => fun
  | [d1, d2, d3] => { results := [.lit (.bool true)], args := [d1, d2, d3] }
  | _ => none }
def topDeliveredRow : OpenClaim := { program := "ytcfdanhklbklkaagreat", sum := "e2860ad59d770d6ab8a80353e4ae54f423c0f0cfe33667d6efc6e1119e50e9e2", func := "staddle/staddletop.TopDelivered", spec := "topDelivered", unfollowed := true, recurses := true, plainKeys := false, apart := false }
def TopDeliveredSaid : Prop := topDeliveredRow.holds Tryz.pinned (OpenSpec.ofChange topDeliveredSpec)

/-- ITS FALSE NEIGHBOUR: 'it returns false'. Refute it at one input. -/
def topDeliveredWrong : ChangeSpec := { name := "topDelivered", fn := fun _ => fun
  | [d1, d2, d3] => { results := [.lit (.bool false)], args := [d1, d2, d3] }
  | _ => none }
def TopDeliveredWrongFalsely : Prop := topDeliveredRow.holds Tryz.pinned (OpenSpec.ofChange topDeliveredWrong)

/-- 'staddlelaw06.WeevilStock': WHATEVER THE INPUT: true; the input reads as it did. -/
def weevilStockSpec : ChangeSpec := { name := "weevilStock", fn := fun _ => fun
  | [d1, d2] => { results := [.lit (.bool true)], args := [d1, d2] }
  | _ => none }
def weevilStockRow : OpenClaim := { program := "ytcfdanhklbklkaagreat", sum := "e2860ad59d770d6ab8a80353e4ae54f423c0f0cfe33667d6efc6e1119e50e9e2", func := "staddle/staddlelaw06.WeevilStock", spec := "weevilStock", unfollowed := true, recurses := true, plainKeys := false, apart := false }
def WeevilStockSaid : Prop := weevilStockRow.holds Tryz.pinned (OpenSpec.ofChange weevilStockSpec)

/-- ITS FALSE NEIGHBOUR: 'it returns false'. Refute it at one input. -/
def weevilStockWrong : ChangeSpec := { name := "weevilStock", fn := fun _ => fun
  | [d1, d2] => { results := [.lit (.bool false)], args := [d1, d2] }
  | _ => none }
def WeevilStockWrongFalsely : Prop := weevilStockRow.holds Tryz.pinned (OpenSpec.ofChange weevilStockWrong)

/- THE SECOND FORM. 'bulk': how many values and letters a reading holds, each counted each time it is reached (what is shared counts as often as it is met; a slice's spare places count too). A statement '..UptoSaid' is the law's where the arguments, and the package variables that the reading takes, are together of bulk at most 1048576: NARROWER than '..Said'. Prove '..Said' where nothing that the law and all that it calls make is longer than what came in: it says more and counts as full. Else prove '..UptoSaid'. A law counts once. -/
mutual
def uptoBulk {H : Type} : DataW H → Nat
  | .lit (.string bytes) => bytes.length + 1
  | .lit _ => 1
  | .nil => 1
  | .ptr d => uptoBulk d + 1
  | .slice elems spare => uptoBulkAll elems + uptoBulkAll spare + 1
  | .agg parts => uptoBulkAll parts + 1
  | .iface _ d => uptoBulk d + 1
  | .map entries => uptoBulkEntries entries + 1
  | .held _ => 1
def uptoBulkAll {H : Type} : List (DataW H) → Nat
  | [] => 0
  | d :: r => uptoBulk d + uptoBulkAll r
def uptoBulkEntries {H : Type} : List (Lit × DataW H) → Nat
  | [] => 0
  | x :: r => uptoBulkEntry x + uptoBulkEntries r
def uptoBulkEntry {H : Type} : Lit × DataW H → Nat
  | (.string bytes, d) => bytes.length + uptoBulk d + 1
  | (_, d) => uptoBulk d + 1
 end
def uptoSmall : (H : Type) → List (DataW H) → Bool := fun _ ds => decide (uptoBulkAll ds ≤ 1048576)
def OpenSpec.upto (s : _root_.Go.ChangeSpec) : _root_.Go.OpenSpec := { _root_.Go.OpenSpec.ofChange s with cond := some uptoSmall }

/-- 'staddletop.TopRounds', WHERE WHAT IT READS IS OF BULK AT MOST 1048576: true; the input reads as it did. -/
def topRoundsUptoRow : OpenClaim := { program := "ytcfdanhklbklkaagreat", sum := "e2860ad59d770d6ab8a80353e4ae54f423c0f0cfe33667d6efc6e1119e50e9e2", func := "staddle/staddletop.TopRounds", spec := "topRounds", inPlace := ["slices.overlaps[int]"], unfollowed := true, recurses := true, plainKeys := false, apart := false, narrowed := true }
def TopRoundsUptoSaid : Prop := topRoundsUptoRow.holds Tryz.pinned (OpenSpec.upto topRoundsSpec)

/-- 'staddletop.TopDelivered', WHERE WHAT IT READS IS OF BULK AT MOST 1048576: true; the input reads as it did. -/
def topDeliveredUptoRow : OpenClaim := { program := "ytcfdanhklbklkaagreat", sum := "e2860ad59d770d6ab8a80353e4ae54f423c0f0cfe33667d6efc6e1119e50e9e2", func := "staddle/staddletop.TopDelivered", spec := "topDelivered", unfollowed := true, recurses := true, plainKeys := false, apart := false, narrowed := true }
def TopDeliveredUptoSaid : Prop := topDeliveredUptoRow.holds Tryz.pinned (OpenSpec.upto topDeliveredSpec)

/-- 'staddlelaw06.WeevilStock', WHERE WHAT IT READS IS OF BULK AT MOST 1048576: true; the input reads as it did. -/
def weevilStockUptoRow : OpenClaim := { program := "ytcfdanhklbklkaagreat", sum := "e2860ad59d770d6ab8a80353e4ae54f423c0f0cfe33667d6efc6e1119e50e9e2", func := "staddle/staddlelaw06.WeevilStock", spec := "weevilStock", unfollowed := true, recurses := true, plainKeys := false, apart := false, narrowed := true }
def WeevilStockUptoSaid : Prop := weevilStockUptoRow.holds Tryz.pinned (OpenSpec.upto weevilStockSpec)

end Rows
end Go.Proofs.YtcfdanhklbklkaaGreat
