/-
  No cell of these rows narrows 'for every input' (looked for: loops, veiled, ifaces, maps, wideKeys, modest, calm, conditions, laid).
  DERIVED. THE GIVEN ROWS OF THIS SEAT. 2 by the template 'for every input the law returns true; each argument reads behind the call as it read before'; 0 by the template 'total and deterministic' (their statements: YthijcgkicjljhaaGreatTotals.lean).
  GIVEN WITH THE SEED: the statements are not yours to turn. If you find one false, say at which input.
  Laid BY PROGRAM, IN A SANDBOX (cutbox-rows.mjs): the forced cells as the released guide's own fill.sh prints them over the translation cb7a084374f6be2d… (all of the seat's roots in one cut). By AI agents, Wed Nov 11 2026. No macro, syntax, notation, axiom, sorry.
-/
import Derived.Test.YthijcgkicjljhaaGreatChecked
import GoSem.Claim
import GoSem.ClaimJoined
import GoSem.ClaimMapViews
import Derived.JoinedTies
import Derived.KernelRfl
namespace Go.Proofs.YthijcgkicjljhaaGreat
/- THE CELL 'sum', in the pinned program and in every row, IS THE sha256 OF THE DUMP (.gsa) THAT YthijcgkicjljhaaGreatProg.lean LOADS. Nothing in Lean hashes anything: it is a label: what it is worth is what the hold of that sum in a sandbox is worth. -/
noncomputable def Tryz.pinned : Pinned := { name := "ythijcgkicjljhaagreat", sum := "cb7a084374f6be2d9f16ff269ba444c2004030cbbaa35648d6fd77fa86dbab62", checked := Tryz.checked }
namespace Rows
def none {H : Type} : Left H := { results := [], args := [] }

/-- 'staddletop.TopWarmed': WHATEVER THE INPUT: true; the input reads as it did. -/
def topWarmedSpec : ChangeSpec := { name := "topWarmed", fn := fun _ => fun
  | [d1, d2, d3, d4] => { results := [.lit (.bool true)], args := [d1, d2, d3, d4] }
  | _ => none }
def topWarmedRow : OpenClaim := { program := "ythijcgkicjljhaagreat", sum := "cb7a084374f6be2d9f16ff269ba444c2004030cbbaa35648d6fd77fa86dbab62", func := "staddle/staddletop.TopWarmed", spec := "topWarmed", unfollowed := true, recurses := true, plainKeys := false, apart := false }
def TopWarmedSaid : Prop := topWarmedRow.holds Tryz.pinned (OpenSpec.ofChange topWarmedSpec)

/-- ITS FALSE NEIGHBOUR: 'it returns false'. Refute it at one input. -/
def topWarmedWrong : ChangeSpec := { name := "topWarmed", fn := fun _ => fun
  | [d1, d2, d3, d4] => { results := [.lit (.bool false)], args := [d1, d2, d3, d4] }
  | _ => none }
def TopWarmedWrongFalsely : Prop := topWarmedRow.holds Tryz.pinned (OpenSpec.ofChange topWarmedWrong)

/-- 'staddletop.TopBitten': WHATEVER THE INPUT: true; the input reads as it did. -/
def topBittenSpec : ChangeSpec := { name := "topBitten", fn := fun _ => fun
  | [d1, d2, d3] => { results := [.lit (.bool true)], args := [d1, d2, d3] }
  | _ => none }
def topBittenRow : OpenClaim := { program := "ythijcgkicjljhaagreat", sum := "cb7a084374f6be2d9f16ff269ba444c2004030cbbaa35648d6fd77fa86dbab62", func := "staddle/staddletop.TopBitten", spec := "topBitten", unfollowed := true, recurses := true, plainKeys := false, apart := false }
def TopBittenSaid : Prop := topBittenRow.holds Tryz.pinned (OpenSpec.ofChange topBittenSpec)

/-- ITS FALSE NEIGHBOUR: 'it returns false'. Refute it at one input. -/
def topBittenWrong : ChangeSpec := { name := "topBitten", fn := fun _ => fun
  | [d1, d2, d3] => { results := [.lit (.bool false)], args := [d1, d2, d3] }
  | _ => none }
def TopBittenWrongFalsely : Prop := topBittenRow.holds Tryz.pinned (OpenSpec.ofChange topBittenWrong)

/- THE SECOND FORM. 'bulk': how many values and letters a reading holds, each counted each time it is reached (what is shared counts as often as it is met; a slice's spare places count too). A statement '..UptoSaid' is the law's where the arguments, and the package variables that the reading takes, are together of bulk at most 1048576: NARROWER than '..Said'. Prove '..Said' where nothing that the law and all that it calls make is longer than what came in: it says more and counts as full. Else prove '..UptoSaid'. A law counts once. -/
mutual
def uptoBulk {H : Type} : DataW H → Nat
  | .lit (.string bytes) => bytes.length + 1
  | .lit _ => 1
  | .nil => 1
  | .ptr d => uptoBulk d + 1
  | .slice elems spare => uptoBulkAll elems + uptoBulkAll spare + 1
  | .agg parts => uptoBulkAll parts + 1
  | .iface _ d => uptoBulk d + 1
  | .map entries => uptoBulkEntries entries + 1
  | .held _ => 1
def uptoBulkAll {H : Type} : List (DataW H) → Nat
  | [] => 0
  | d :: r => uptoBulk d + uptoBulkAll r
def uptoBulkEntries {H : Type} : List (Lit × DataW H) → Nat
  | [] => 0
  | x :: r => uptoBulkEntry x + uptoBulkEntries r
def uptoBulkEntry {H : Type} : Lit × DataW H → Nat
  | (.string bytes, d) => bytes.length + uptoBulk d + 1
  | (_, d) => uptoBulk d + 1
 end
def uptoSmall : (H : Type) → List (DataW H) → Bool := fun _ ds => decide (uptoBulkAll ds ≤ 1048576)
def OpenSpec.upto (s : _root_.Go.ChangeSpec) : _root_.Go.OpenSpec := { _root_.Go.OpenSpec.ofChange s with cond := some uptoSmall }

/-- 'staddletop.TopWarmed', WHERE WHAT IT READS IS OF BULK AT MOST 1048576: true; the input reads as it did. -/
def topWarmedUptoRow : OpenClaim := { program := "ythijcgkicjljhaagreat", sum := "cb7a084374f6be2d9f16ff269ba444c2004030cbbaa35648d6fd77fa86dbab62", func := "staddle/staddletop.TopWarmed", spec := "topWarmed", unfollowed := true, recurses := true, plainKeys := false, apart := false, narrowed := true }
def TopWarmedUptoSaid : Prop := topWarmedUptoRow.holds Tryz.pinned (OpenSpec.upto topWarmedSpec)

/-- 'staddletop.TopBitten', WHERE WHAT IT READS IS OF BULK AT MOST 1048576: true; the input reads as it did. -/
def topBittenUptoRow : OpenClaim := { program := "ythijcgkicjljhaagreat", sum := "cb7a084374f6be2d9f16ff269ba444c2004030cbbaa35648d6fd77fa86dbab62", func := "staddle/staddletop.TopBitten", spec := "topBitten", unfollowed := true, recurses := true, plainKeys := false, apart := false, narrowed := true }
def TopBittenUptoSaid : Prop := topBittenUptoRow.holds Tryz.pinned (OpenSpec.upto topBittenSpec)

end Rows
end Go.Proofs.YthijcgkicjljhaaGreat
