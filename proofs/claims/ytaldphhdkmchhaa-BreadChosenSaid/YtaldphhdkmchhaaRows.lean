/-
  No cell of these rows narrows 'for every input' (looked for: loops, veiled, ifaces, maps, wideKeys, modest, calm, conditions, laid).
  DERIVED. THE GIVEN ROWS OF THIS SEAT. 12 by the template 'for every input the law returns true; each argument reads behind the call as it read before'; 0 by the template 'total and deterministic' (their statements: YtaldphhdkmchhaaTotals.lean).
  GIVEN WITH THE SEED: the statements are not yours to turn. If you find one false, say at which input.
  Laid BY PROGRAM, IN A SANDBOX (cutbox-rows.mjs): the forced cells as the released guide's own fill.sh prints them over the translation b0e17c8f9e241ba6… (all of the seat's roots in one cut). By AI agents, Wed Nov 11 2026. No macro, syntax, notation, axiom, sorry.
-/
import Derived.Test.YtaldphhdkmchhaaChecked
import GoSem.Claim
import GoSem.ClaimJoined
import GoSem.ClaimMapViews
import Derived.JoinedTies
import Derived.KernelRfl
namespace Go.Proofs.Ytaldphhdkmchhaa
/- THE CELL 'sum', in the pinned program and in every row, IS THE sha256 OF THE DUMP (.gsa) THAT YtaldphhdkmchhaaProg.lean LOADS. Nothing in Lean hashes anything: it is a label: what it is worth is what the hold of that sum in a sandbox is worth. -/
noncomputable def Try.pinned : Pinned := { name := "ytaldphhdkmchhaa", sum := "b0e17c8f9e241ba661d0bbd70a1e670baaf0e299b65209cc78701efa5531daff", checked := Try.checked }
namespace Rows
def none {H : Type} : Left H := { results := [], args := [] }

/-- 'staddlelaw09.BreadTables': WHATEVER THE INPUT: true; the input reads as it did. -/
def breadTablesSpec : ChangeSpec := { name := "breadTables", fn := fun _ => fun
  | [d1, d2] => { results := [.lit (.bool true)], args := [d1, d2] }
  | _ => none }
def breadTablesRow : OpenClaim := { program := "ytaldphhdkmchhaa", sum := "b0e17c8f9e241ba661d0bbd70a1e670baaf0e299b65209cc78701efa5531daff", func := "staddle/staddlelaw09.BreadTables", spec := "breadTables", unfollowed := true, recurses := true, plainKeys := false, apart := false }
def BreadTablesSaid : Prop := breadTablesRow.holds Try.pinned (OpenSpec.ofChange breadTablesSpec)

/-- ITS FALSE NEIGHBOUR: 'it returns false'. Refute it at one input. -/
def breadTablesWrong : ChangeSpec := { name := "breadTables", fn := fun _ => fun
  | [d1, d2] => { results := [.lit (.bool false)], args := [d1, d2] }
  | _ => none }
def BreadTablesWrongFalsely : Prop := breadTablesRow.holds Try.pinned (OpenSpec.ofChange breadTablesWrong)

/-- 'staddlelaw09.BreadEarns': WHATEVER THE INPUT: true; the input reads as it did. -/
def breadEarnsSpec : ChangeSpec := { name := "breadEarns", fn := fun _ => fun
  | [d1, d2] => { results := [.lit (.bool true)], args := [d1, d2] }
  | _ => none }
def breadEarnsRow : OpenClaim := { program := "ytaldphhdkmchhaa", sum := "b0e17c8f9e241ba661d0bbd70a1e670baaf0e299b65209cc78701efa5531daff", func := "staddle/staddlelaw09.BreadEarns", spec := "breadEarns", unfollowed := true, recurses := true, plainKeys := false, apart := false }
def BreadEarnsSaid : Prop := breadEarnsRow.holds Try.pinned (OpenSpec.ofChange breadEarnsSpec)

/-- ITS FALSE NEIGHBOUR: 'it returns false'. Refute it at one input. -/
def breadEarnsWrong : ChangeSpec := { name := "breadEarns", fn := fun _ => fun
  | [d1, d2] => { results := [.lit (.bool false)], args := [d1, d2] }
  | _ => none }
def BreadEarnsWrongFalsely : Prop := breadEarnsRow.holds Try.pinned (OpenSpec.ofChange breadEarnsWrong)

/-- 'staddlelaw09.BreadShares': WHATEVER THE INPUT: true; the input reads as it did. -/
def breadSharesSpec : ChangeSpec := { name := "breadShares", fn := fun _ => fun
  | [d1, d2, d3] => { results := [.lit (.bool true)], args := [d1, d2, d3] }
  | _ => none }
def breadSharesRow : OpenClaim := { program := "ytaldphhdkmchhaa", sum := "b0e17c8f9e241ba661d0bbd70a1e670baaf0e299b65209cc78701efa5531daff", func := "staddle/staddlelaw09.BreadShares", spec := "breadShares", unfollowed := true, recurses := true, plainKeys := false, apart := false }
def BreadSharesSaid : Prop := breadSharesRow.holds Try.pinned (OpenSpec.ofChange breadSharesSpec)

/-- ITS FALSE NEIGHBOUR: 'it returns false'. Refute it at one input. -/
def breadSharesWrong : ChangeSpec := { name := "breadShares", fn := fun _ => fun
  | [d1, d2, d3] => { results := [.lit (.bool false)], args := [d1, d2, d3] }
  | _ => none }
def BreadSharesWrongFalsely : Prop := breadSharesRow.holds Try.pinned (OpenSpec.ofChange breadSharesWrong)

/-- 'staddlelaw09.BreadLasts': WHATEVER THE INPUT: true; the input reads as it did. -/
def breadLastsSpec : ChangeSpec := { name := "breadLasts", fn := fun _ => fun
  | [d1, d2, d3] => { results := [.lit (.bool true)], args := [d1, d2, d3] }
  | _ => none }
def breadLastsRow : OpenClaim := { program := "ytaldphhdkmchhaa", sum := "b0e17c8f9e241ba661d0bbd70a1e670baaf0e299b65209cc78701efa5531daff", func := "staddle/staddlelaw09.BreadLasts", spec := "breadLasts", unfollowed := true, recurses := true, plainKeys := false, apart := false }
def BreadLastsSaid : Prop := breadLastsRow.holds Try.pinned (OpenSpec.ofChange breadLastsSpec)

/-- ITS FALSE NEIGHBOUR: 'it returns false'. Refute it at one input. -/
def breadLastsWrong : ChangeSpec := { name := "breadLasts", fn := fun _ => fun
  | [d1, d2, d3] => { results := [.lit (.bool false)], args := [d1, d2, d3] }
  | _ => none }
def BreadLastsWrongFalsely : Prop := breadLastsRow.holds Try.pinned (OpenSpec.ofChange breadLastsWrong)

/-- 'staddlelaw09.BreadMore': WHATEVER THE INPUT: true; the input reads as it did. -/
def breadMoreSpec : ChangeSpec := { name := "breadMore", fn := fun _ => fun
  | [d1, d2, d3] => { results := [.lit (.bool true)], args := [d1, d2, d3] }
  | _ => none }
def breadMoreRow : OpenClaim := { program := "ytaldphhdkmchhaa", sum := "b0e17c8f9e241ba661d0bbd70a1e670baaf0e299b65209cc78701efa5531daff", func := "staddle/staddlelaw09.BreadMore", spec := "breadMore", unfollowed := true, recurses := true, plainKeys := false, apart := false }
def BreadMoreSaid : Prop := breadMoreRow.holds Try.pinned (OpenSpec.ofChange breadMoreSpec)

/-- ITS FALSE NEIGHBOUR: 'it returns false'. Refute it at one input. -/
def breadMoreWrong : ChangeSpec := { name := "breadMore", fn := fun _ => fun
  | [d1, d2, d3] => { results := [.lit (.bool false)], args := [d1, d2, d3] }
  | _ => none }
def BreadMoreWrongFalsely : Prop := breadMoreRow.holds Try.pinned (OpenSpec.ofChange breadMoreWrong)

/-- 'staddlelaw09.BreadBakers': WHATEVER THE INPUT: true; the input reads as it did. -/
def breadBakersSpec : ChangeSpec := { name := "breadBakers", fn := fun _ => fun
  | [d1, d2, d3] => { results := [.lit (.bool true)], args := [d1, d2, d3] }
  | _ => none }
def breadBakersRow : OpenClaim := { program := "ytaldphhdkmchhaa", sum := "b0e17c8f9e241ba661d0bbd70a1e670baaf0e299b65209cc78701efa5531daff", func := "staddle/staddlelaw09.BreadBakers", spec := "breadBakers", unfollowed := true, recurses := true, plainKeys := false, apart := false }
def BreadBakersSaid : Prop := breadBakersRow.holds Try.pinned (OpenSpec.ofChange breadBakersSpec)

/-- ITS FALSE NEIGHBOUR: 'it returns false'. Refute it at one input. -/
def breadBakersWrong : ChangeSpec := { name := "breadBakers", fn := fun _ => fun
  | [d1, d2, d3] => { results := [.lit (.bool false)], args := [d1, d2, d3] }
  | _ => none }
def BreadBakersWrongFalsely : Prop := breadBakersRow.holds Try.pinned (OpenSpec.ofChange breadBakersWrong)

/-- 'staddlelaw09.BreadPlays': WHATEVER THE INPUT: true; the input reads as it did. -/
def breadPlaysSpec : ChangeSpec := { name := "breadPlays", fn := fun _ => fun
  | [d1, d2, d3] => { results := [.lit (.bool true)], args := [d1, d2, d3] }
  | _ => none }
def breadPlaysRow : OpenClaim := { program := "ytaldphhdkmchhaa", sum := "b0e17c8f9e241ba661d0bbd70a1e670baaf0e299b65209cc78701efa5531daff", func := "staddle/staddlelaw09.BreadPlays", spec := "breadPlays", unfollowed := true, recurses := true, plainKeys := false, apart := false }
def BreadPlaysSaid : Prop := breadPlaysRow.holds Try.pinned (OpenSpec.ofChange breadPlaysSpec)

/-- ITS FALSE NEIGHBOUR: 'it returns false'. Refute it at one input. -/
def breadPlaysWrong : ChangeSpec := { name := "breadPlays", fn := fun _ => fun
  | [d1, d2, d3] => { results := [.lit (.bool false)], args := [d1, d2, d3] }
  | _ => none }
def BreadPlaysWrongFalsely : Prop := breadPlaysRow.holds Try.pinned (OpenSpec.ofChange breadPlaysWrong)

/-- 'staddlelaw09.BreadEarned': WHATEVER THE INPUT: true; the input reads as it did. -/
def breadEarnedSpec : ChangeSpec := { name := "breadEarned", fn := fun _ => fun
  | [d1, d2, d3] => { results := [.lit (.bool true)], args := [d1, d2, d3] }
  | _ => none }
def breadEarnedRow : OpenClaim := { program := "ytaldphhdkmchhaa", sum := "b0e17c8f9e241ba661d0bbd70a1e670baaf0e299b65209cc78701efa5531daff", func := "staddle/staddlelaw09.BreadEarned", spec := "breadEarned", unfollowed := true, recurses := true, plainKeys := false, apart := false }
def BreadEarnedSaid : Prop := breadEarnedRow.holds Try.pinned (OpenSpec.ofChange breadEarnedSpec)

/-- ITS FALSE NEIGHBOUR: 'it returns false'. Refute it at one input. -/
def breadEarnedWrong : ChangeSpec := { name := "breadEarned", fn := fun _ => fun
  | [d1, d2, d3] => { results := [.lit (.bool false)], args := [d1, d2, d3] }
  | _ => none }
def BreadEarnedWrongFalsely : Prop := breadEarnedRow.holds Try.pinned (OpenSpec.ofChange breadEarnedWrong)

/-- 'staddlelaw09.BreadFates': WHATEVER THE INPUT: true; the input reads as it did. -/
def breadFatesSpec : ChangeSpec := { name := "breadFates", fn := fun _ => fun
  | [d1, d2] => { results := [.lit (.bool true)], args := [d1, d2] }
  | _ => none }
def breadFatesRow : OpenClaim := { program := "ytaldphhdkmchhaa", sum := "b0e17c8f9e241ba661d0bbd70a1e670baaf0e299b65209cc78701efa5531daff", func := "staddle/staddlelaw09.BreadFates", spec := "breadFates", unfollowed := true, recurses := true, plainKeys := false, apart := false }
def BreadFatesSaid : Prop := breadFatesRow.holds Try.pinned (OpenSpec.ofChange breadFatesSpec)

/-- ITS FALSE NEIGHBOUR: 'it returns false'. Refute it at one input. -/
def breadFatesWrong : ChangeSpec := { name := "breadFates", fn := fun _ => fun
  | [d1, d2] => { results := [.lit (.bool false)], args := [d1, d2] }
  | _ => none }
def BreadFatesWrongFalsely : Prop := breadFatesRow.holds Try.pinned (OpenSpec.ofChange breadFatesWrong)

/-- 'staddlelaw09.BreadChecks': WHATEVER THE INPUT: true; the input reads as it did. -/
def breadChecksSpec : ChangeSpec := { name := "breadChecks", fn := fun _ => fun
  | [d1, d2, d3, d4] => { results := [.lit (.bool true)], args := [d1, d2, d3, d4] }
  | _ => none }
def breadChecksRow : OpenClaim := { program := "ytaldphhdkmchhaa", sum := "b0e17c8f9e241ba661d0bbd70a1e670baaf0e299b65209cc78701efa5531daff", func := "staddle/staddlelaw09.BreadChecks", spec := "breadChecks", unfollowed := true, recurses := true, plainKeys := false, apart := false }
def BreadChecksSaid : Prop := breadChecksRow.holds Try.pinned (OpenSpec.ofChange breadChecksSpec)

/-- ITS FALSE NEIGHBOUR: 'it returns false'. Refute it at one input. -/
def breadChecksWrong : ChangeSpec := { name := "breadChecks", fn := fun _ => fun
  | [d1, d2, d3, d4] => { results := [.lit (.bool false)], args := [d1, d2, d3, d4] }
  | _ => none }
def BreadChecksWrongFalsely : Prop := breadChecksRow.holds Try.pinned (OpenSpec.ofChange breadChecksWrong)

/-- 'staddlelaw09.BreadFed': WHATEVER THE INPUT: true; the input reads as it did. -/
def breadFedSpec : ChangeSpec := { name := "breadFed", fn := fun _ => fun
  | [d1, d2] => { results := [.lit (.bool true)], args := [d1, d2] }
  | _ => none }
def breadFedRow : OpenClaim := { program := "ytaldphhdkmchhaa", sum := "b0e17c8f9e241ba661d0bbd70a1e670baaf0e299b65209cc78701efa5531daff", func := "staddle/staddlelaw09.BreadFed", spec := "breadFed", unfollowed := true, recurses := true, plainKeys := false, apart := false }
def BreadFedSaid : Prop := breadFedRow.holds Try.pinned (OpenSpec.ofChange breadFedSpec)

/-- ITS FALSE NEIGHBOUR: 'it returns false'. Refute it at one input. -/
def breadFedWrong : ChangeSpec := { name := "breadFed", fn := fun _ => fun
  | [d1, d2] => { results := [.lit (.bool false)], args := [d1, d2] }
  | _ => none }
def BreadFedWrongFalsely : Prop := breadFedRow.holds Try.pinned (OpenSpec.ofChange breadFedWrong)

/-- 'staddlelaw09.BreadChosen': WHATEVER THE INPUT: true; the input reads as it did. -/
def breadChosenSpec : ChangeSpec := { name := "breadChosen", fn := fun _ => fun
  | [d1, d2] => { results := [.lit (.bool true)], args := [d1, d2] }
  | _ => none }
def breadChosenRow : OpenClaim := { program := "ytaldphhdkmchhaa", sum := "b0e17c8f9e241ba661d0bbd70a1e670baaf0e299b65209cc78701efa5531daff", func := "staddle/staddlelaw09.BreadChosen", spec := "breadChosen", unfollowed := true, recurses := true, plainKeys := false, apart := false }
def BreadChosenSaid : Prop := breadChosenRow.holds Try.pinned (OpenSpec.ofChange breadChosenSpec)

/-- ITS FALSE NEIGHBOUR: 'it returns false'. Refute it at one input. -/
def breadChosenWrong : ChangeSpec := { name := "breadChosen", fn := fun _ => fun
  | [d1, d2] => { results := [.lit (.bool false)], args := [d1, d2] }
  | _ => none }
def BreadChosenWrongFalsely : Prop := breadChosenRow.holds Try.pinned (OpenSpec.ofChange breadChosenWrong)

/- THE SECOND FORM. 'bulk': how many values and letters a reading holds, each counted each time it is reached (what is shared counts as often as it is met; a slice's spare places count too). A statement '..UptoSaid' is the law's where the arguments, and the package variables that the reading takes, are together of bulk at most 1048576: NARROWER than '..Said'. Prove '..Said' where nothing that the law and all that it calls make is longer than what came in: it says more and counts as full. Else prove '..UptoSaid'. A law counts once. -/
mutual
def uptoBulk {H : Type} : DataW H → Nat
  | .lit (.string bytes) => bytes.length + 1
  | .lit _ => 1
  | .nil => 1
  | .ptr d => uptoBulk d + 1
  | .slice elems spare => uptoBulkAll elems + uptoBulkAll spare + 1
  | .agg parts => uptoBulkAll parts + 1
  | .iface _ d => uptoBulk d + 1
  | .map entries => uptoBulkEntries entries + 1
  | .held _ => 1
def uptoBulkAll {H : Type} : List (DataW H) → Nat
  | [] => 0
  | d :: r => uptoBulk d + uptoBulkAll r
def uptoBulkEntries {H : Type} : List (Lit × DataW H) → Nat
  | [] => 0
  | x :: r => uptoBulkEntry x + uptoBulkEntries r
def uptoBulkEntry {H : Type} : Lit × DataW H → Nat
  | (.string bytes, d) => bytes.length + uptoBulk d + 1
  | (_, d) => uptoBulk d + 1
 end
def uptoSmall : (H : Type) → List (DataW H) → Bool := fun _ ds => decide (uptoBulkAll ds ≤ 1048576)
def OpenSpec.upto (s : _root_.Go.ChangeSpec) : _root_.Go.OpenSpec := { _root_.Go.OpenSpec.ofChange s with cond := some uptoSmall }

/-- 'staddlelaw09.BreadTables', WHERE WHAT IT READS IS OF BULK AT MOST 1048576: true; the input reads as it did. -/
def breadTablesUptoRow : OpenClaim := { program := "ytaldphhdkmchhaa", sum := "b0e17c8f9e241ba661d0bbd70a1e670baaf0e299b65209cc78701efa5531daff", func := "staddle/staddlelaw09.BreadTables", spec := "breadTables", unfollowed := true, recurses := true, plainKeys := false, apart := false, narrowed := true }
def BreadTablesUptoSaid : Prop := breadTablesUptoRow.holds Try.pinned (OpenSpec.upto breadTablesSpec)

/-- 'staddlelaw09.BreadEarns', WHERE WHAT IT READS IS OF BULK AT MOST 1048576: true; the input reads as it did. -/
def breadEarnsUptoRow : OpenClaim := { program := "ytaldphhdkmchhaa", sum := "b0e17c8f9e241ba661d0bbd70a1e670baaf0e299b65209cc78701efa5531daff", func := "staddle/staddlelaw09.BreadEarns", spec := "breadEarns", unfollowed := true, recurses := true, plainKeys := false, apart := false, narrowed := true }
def BreadEarnsUptoSaid : Prop := breadEarnsUptoRow.holds Try.pinned (OpenSpec.upto breadEarnsSpec)

/-- 'staddlelaw09.BreadShares', WHERE WHAT IT READS IS OF BULK AT MOST 1048576: true; the input reads as it did. -/
def breadSharesUptoRow : OpenClaim := { program := "ytaldphhdkmchhaa", sum := "b0e17c8f9e241ba661d0bbd70a1e670baaf0e299b65209cc78701efa5531daff", func := "staddle/staddlelaw09.BreadShares", spec := "breadShares", unfollowed := true, recurses := true, plainKeys := false, apart := false, narrowed := true }
def BreadSharesUptoSaid : Prop := breadSharesUptoRow.holds Try.pinned (OpenSpec.upto breadSharesSpec)

/-- 'staddlelaw09.BreadLasts', WHERE WHAT IT READS IS OF BULK AT MOST 1048576: true; the input reads as it did. -/
def breadLastsUptoRow : OpenClaim := { program := "ytaldphhdkmchhaa", sum := "b0e17c8f9e241ba661d0bbd70a1e670baaf0e299b65209cc78701efa5531daff", func := "staddle/staddlelaw09.BreadLasts", spec := "breadLasts", unfollowed := true, recurses := true, plainKeys := false, apart := false, narrowed := true }
def BreadLastsUptoSaid : Prop := breadLastsUptoRow.holds Try.pinned (OpenSpec.upto breadLastsSpec)

/-- 'staddlelaw09.BreadMore', WHERE WHAT IT READS IS OF BULK AT MOST 1048576: true; the input reads as it did. -/
def breadMoreUptoRow : OpenClaim := { program := "ytaldphhdkmchhaa", sum := "b0e17c8f9e241ba661d0bbd70a1e670baaf0e299b65209cc78701efa5531daff", func := "staddle/staddlelaw09.BreadMore", spec := "breadMore", unfollowed := true, recurses := true, plainKeys := false, apart := false, narrowed := true }
def BreadMoreUptoSaid : Prop := breadMoreUptoRow.holds Try.pinned (OpenSpec.upto breadMoreSpec)

/-- 'staddlelaw09.BreadBakers', WHERE WHAT IT READS IS OF BULK AT MOST 1048576: true; the input reads as it did. -/
def breadBakersUptoRow : OpenClaim := { program := "ytaldphhdkmchhaa", sum := "b0e17c8f9e241ba661d0bbd70a1e670baaf0e299b65209cc78701efa5531daff", func := "staddle/staddlelaw09.BreadBakers", spec := "breadBakers", unfollowed := true, recurses := true, plainKeys := false, apart := false, narrowed := true }
def BreadBakersUptoSaid : Prop := breadBakersUptoRow.holds Try.pinned (OpenSpec.upto breadBakersSpec)

/-- 'staddlelaw09.BreadPlays', WHERE WHAT IT READS IS OF BULK AT MOST 1048576: true; the input reads as it did. -/
def breadPlaysUptoRow : OpenClaim := { program := "ytaldphhdkmchhaa", sum := "b0e17c8f9e241ba661d0bbd70a1e670baaf0e299b65209cc78701efa5531daff", func := "staddle/staddlelaw09.BreadPlays", spec := "breadPlays", unfollowed := true, recurses := true, plainKeys := false, apart := false, narrowed := true }
def BreadPlaysUptoSaid : Prop := breadPlaysUptoRow.holds Try.pinned (OpenSpec.upto breadPlaysSpec)

/-- 'staddlelaw09.BreadEarned', WHERE WHAT IT READS IS OF BULK AT MOST 1048576: true; the input reads as it did. -/
def breadEarnedUptoRow : OpenClaim := { program := "ytaldphhdkmchhaa", sum := "b0e17c8f9e241ba661d0bbd70a1e670baaf0e299b65209cc78701efa5531daff", func := "staddle/staddlelaw09.BreadEarned", spec := "breadEarned", unfollowed := true, recurses := true, plainKeys := false, apart := false, narrowed := true }
def BreadEarnedUptoSaid : Prop := breadEarnedUptoRow.holds Try.pinned (OpenSpec.upto breadEarnedSpec)

/-- 'staddlelaw09.BreadFates', WHERE WHAT IT READS IS OF BULK AT MOST 1048576: true; the input reads as it did. -/
def breadFatesUptoRow : OpenClaim := { program := "ytaldphhdkmchhaa", sum := "b0e17c8f9e241ba661d0bbd70a1e670baaf0e299b65209cc78701efa5531daff", func := "staddle/staddlelaw09.BreadFates", spec := "breadFates", unfollowed := true, recurses := true, plainKeys := false, apart := false, narrowed := true }
def BreadFatesUptoSaid : Prop := breadFatesUptoRow.holds Try.pinned (OpenSpec.upto breadFatesSpec)

/-- 'staddlelaw09.BreadChecks', WHERE WHAT IT READS IS OF BULK AT MOST 1048576: true; the input reads as it did. -/
def breadChecksUptoRow : OpenClaim := { program := "ytaldphhdkmchhaa", sum := "b0e17c8f9e241ba661d0bbd70a1e670baaf0e299b65209cc78701efa5531daff", func := "staddle/staddlelaw09.BreadChecks", spec := "breadChecks", unfollowed := true, recurses := true, plainKeys := false, apart := false, narrowed := true }
def BreadChecksUptoSaid : Prop := breadChecksUptoRow.holds Try.pinned (OpenSpec.upto breadChecksSpec)

/-- 'staddlelaw09.BreadFed', WHERE WHAT IT READS IS OF BULK AT MOST 1048576: true; the input reads as it did. -/
def breadFedUptoRow : OpenClaim := { program := "ytaldphhdkmchhaa", sum := "b0e17c8f9e241ba661d0bbd70a1e670baaf0e299b65209cc78701efa5531daff", func := "staddle/staddlelaw09.BreadFed", spec := "breadFed", unfollowed := true, recurses := true, plainKeys := false, apart := false, narrowed := true }
def BreadFedUptoSaid : Prop := breadFedUptoRow.holds Try.pinned (OpenSpec.upto breadFedSpec)

/-- 'staddlelaw09.BreadChosen', WHERE WHAT IT READS IS OF BULK AT MOST 1048576: true; the input reads as it did. -/
def breadChosenUptoRow : OpenClaim := { program := "ytaldphhdkmchhaa", sum := "b0e17c8f9e241ba661d0bbd70a1e670baaf0e299b65209cc78701efa5531daff", func := "staddle/staddlelaw09.BreadChosen", spec := "breadChosen", unfollowed := true, recurses := true, plainKeys := false, apart := false, narrowed := true }
def BreadChosenUptoSaid : Prop := breadChosenUptoRow.holds Try.pinned (OpenSpec.upto breadChosenSpec)

end Rows
end Go.Proofs.Ytaldphhdkmchhaa
