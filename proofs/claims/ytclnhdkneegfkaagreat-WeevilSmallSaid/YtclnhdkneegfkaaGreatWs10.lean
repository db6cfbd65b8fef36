/- The examples with each number at its limits and one beyond, and small houses, are as specified: WeevilSmall returns true. -/
import Derived.Test.YtclnhdkneegfkaaGreatWs9
import Derived.Test.YtclnhdkneegfkaaGreatRows
import Derived.ProofKit
import Derived.ChangeOld
import Derived.Below
import Derived.OpenShut
import Derived.OpenShut
namespace Go.Proofs.YtclnhdkneegfkaaGreat
set_option linter.unusedSimpArgs false
set_option linter.unusedVariables false
open Go Go.ChangeShapes Go.WideShapes Go.RowKit
inductive CKind where
 | int (k:IntKind)
 | bool
 | slice (e:Nat)
 deriving DecidableEq
section open_
variable {H:Type} {enc:TypeId×Value→H} {P:Program} {w:World} {base:Nat} {spare:Nat→Bool} {held:Bool}
def C1 (P:Program) (w:World):CKind→Value→Prop
 | .int k,c=>∃ n,c = .int k n∧k.min≤n∧n≤k.max
 | .bool,c=>∃ b,c = .bool b
 | .slice e,c=>∃ (a:Option Addr) (len cap:Nat) (rows:List (List Value)),c = .slice a len cap∧len≤9223372036854775807∧rows.length=len ∧
     (0<P.cellsOf e→RowsA a (P.cellsOf e) rows w)∧∀ r∈rows,∃ (H:Type) (enc:TypeId×Value→H) (base fuel:Nat) (spare:Nat→Bool) (held:Bool) (x:DataW H×List MemPlace),DataW.trod enc P w base spare held fuel e r=some x
def Cok (P:Program) (w:World):List CKind→List Value→Prop
 | [],cs=>cs=[]
 | k::ks,cs=>∃ c cs',cs=c::cs'∧C1 P w k c∧Cok P w ks cs'
theorem Cok.len:∀ {ks:List CKind} {cs:List Value},Cok P w ks cs→cs.length=ks.length
 | [],cs,h=>by cases h;rfl
 | k::ks,cs,⟨c,cs',h,_,h2⟩=>by subst h;simp [h2.len]
theorem Cok.app:∀ {ks ks':List CKind} {cs cs':List Value},Cok P w ks cs→Cok P w ks' cs'→Cok P w (ks++ks') (cs++cs')
 | [],_,cs,_,h,h'=>by cases h;exact h'
 | k::ks,_,cs,_,⟨c,cs1,h,h1,h2⟩,h'=>by subst h;exact ⟨c,_,rfl,h1,h2.app h'⟩
end open_
theorem St.start {w:World} {R:Z6} (h:∀ f∈R,∀ w',Keep [] w w'→f w'):St [] R w:=⟨by simp,by simp,h⟩
theorem RowsA.keep {a:Option Addr} {sz:Nat} {rows:List (List Value)} {w w':World} (hp:0<sz) (h:RowsA a sz rows w) (k:Keep [] w w'):RowsA a sz rows w':=fun i r hi=>by
 obtain ⟨h1,b,off,he,hc⟩:=h i r hi
 refine ⟨h1,b,off,he,fun j x hx=>?_⟩
 have h2:=hc j x hx
 have hb:=World.block_lt_of_cell? w _ h2
 rw [← h2]
 exact World.cell?_of_block (k.block b hb (by simp))
theorem Keep.below {w w':World} (h:Keep [] w w'):Below w.heap.size w w':=⟨h.os,h.tape,h.output,h.size,fun k hk=>h.block k hk (by simp)⟩
end Go.Proofs.YtclnhdkneegfkaaGreat
namespace Go.Proofs.YtclnhdkneegfkaaGreat
open Go.ChangeShapes Go.WideShapes Go.ChangeAt Go.RowKit
set_option linter.unusedVariables false
set_option linter.unusedSimpArgs false
theorem Z5b:ownKnob Tryz.prog.godebug=none:=by kernel_rfl
set_option maxRecDepth 100000 in
theorem Z3S (os:Os) (started:os.Started) (H:Type) (enc:TypeId×Value→H) :
   ReturnsInHanded {} Tryz.checked os 3 .any (Rows.weevilSmallSpec.pre6 enc Tryz.prog Tryz.f3 Rows.weevilSmallRow.domain false) (Rows.weevilSmallSpec.post enc Tryz.prog Tryz.f3 false true false false):=by
 refine returnsInHanded_of_change (C:=Tryz.checked) Z5b started (by kernel_rfl) Tryz.func3
   (ChangeSpec.witness6 (enc:=enc) (C:=Tryz.checked) false ⟨#[],#[],[]⟩ 8 (by kernel_rfl) (by kernel_rfl) (by kernel_rfl) (by kernel_rfl)) ?_
 intro W base args ds gs before hval0 hW hcnd _
 have hval:∀ (j:Nat) t v,Tryz.f3.params[j]?=some t→args[j]?=some v→Value.okWide Tryz.prog W .any base t v:=hval0
 have hW':=hW
 obtain ⟨p,q,hA0,hV,rfl,hfz,hnd⟩:=hW
 have hA:DataW.TrodAll enc Tryz.prog W 0 (fun _=>true) true Tryz.f3.params.toList args.toList ds p:=hA0
 rw [Tryz.params3] at hA hval
 obtain ⟨hargs,rfl,rfl⟩:=trodAll_nil hA
 obtain rfl:args = #[]:=by cases args;simp_all
 obtain ⟨rfl,rfl⟩:=trodVars_none hV
 have hst:St [] [fun w=>Keep [] W w] W:=St.start (by
   intro f hf w1 k1
   simp only [List.mem_cons,List.not_mem_nil,or_false] at hf
   subst hf
   · exact k1)
 clear hA0 hval0
 have hwalk:=Z5J [] [fun w=>Keep [] W w]
 refine CallsIn.calls (CallsIn.mono (hwalk W hst) ?_) (fun k=>by first | trivial | simp [Fence.room,FF,Fence.wide])
 rintro e W' ⟨v,H',R',⟨rfl,rfl,rfl⟩,rfl,hs⟩
 have bel:Below W.heap.size W W':=(hs.now (f:=fun w=>Keep [] W w) (by simp)).below
 exact ⟨_,rfl,_,_,_,[],_,[],hW',trodAll_mk1 (shut_bool Tryz.underlying4 _),(trodAll_mk0),rfl,bel.frame _,fun h=>by cases h⟩
theorem Z4Y:Rows.weevilSmallRow.holds Tryz.pinned (OpenSpec.ofChange Rows.weevilSmallSpec) :=
 OpenClaim.holds_of_wide 3 Tryz.f3 rfl rfl rfl rfl rfl rfl rfl ⟨rfl,rfl,rfl,rfl,rfl⟩ rfl rfl rfl rfl rfl (by kernel_rfl) Tryz.func3 (by kernel_rfl)
   (of_decide_eq_true (by kernel_rfl)) (by unfold Func.isWrapper;first | (rw [if_pos (by decide +kernel)];kernel_rfl) | (rw [if_neg (by decide +kernel)];exact ⟨rfl,rfl⟩))
   (fun os started H enc _=>Z3S os started H enc)
theorem weevilSmallProved:Rows.WeevilSmallSaid:=Z4Y
end Go.Proofs.YtclnhdkneegfkaaGreat
