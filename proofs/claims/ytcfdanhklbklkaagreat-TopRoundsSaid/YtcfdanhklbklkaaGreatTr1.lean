/- Walks of the functions of the program, and the laws that join them: what the last theorem of this claim needs, in order. -/
import Derived.OrdersIn
import Derived.RangeFuncIn
import Derived.RangeFuncCalls
import Derived.RangeFuncRecord
import Derived.KernelRfl
import Derived.WalkKit
import Derived.DeepKeys
import Derived.Laws.AppendOwn
import Derived.Laws.MakeOwn
import Derived.Scope
import Derived.RangeFuncNested
import Derived.Lib.AppendZerosOnto
import Derived.Lib.Overlaps
import Derived.Test.YtcfdanhklbklkaaGreatProg
namespace Go.Proofs.YtcfdanhklbklkaaGreat
set_option linter.unusedSimpArgs false
set_option linter.unusedVariables false
open Go
def FF (r:Option Nat):Fence:={ Fence.wide with round:=r }
theorem Z2m (r:Option Nat) (f:FuncId):(FF r).fn f:=trivial
theorem Z1P (r:Option Nat):(FF r).round=r:=rfl
theorem Z2l (r:Option Nat):(FF r).depth=none:=rfl
section region
variable {P:Program} {r:Option Nat} {ops:Array Oper}
theorem Zbb {F:Fence} {n:Nat} {o:Oper} {a:Act} {w:World} {K:Act→World→Prop} {Q:Exit→Act→World→Prop}
   (h:o.wpIn F n P a w K (fun _ _ _=>False)):o.wpIn F n P a w K Q:=by
 unfold Oper.wpIn at *
 refine ⟨h.1,?_⟩
 have h:=h.2
 generalize (o.semAt F.round a.eval).run P w=res at *
 cases res with
 | ok x w' =>
   cases x<;>simp only [Oper.uponIn] at h ⊢ <;>
     first
       | exact h
       | exact ⟨h.1,CallsIn.mono h.2 (fun e w'' he=>by
           cases e with
           | returned v=>exact he
           | panicked c=>exact he.elim
           | outgrown=>obtain ⟨_,_,hf⟩:=he;exact hf.elim)⟩
       | exact ⟨h.1,RoundIn.mono h.2 (fun e w'' he=>by
           cases e with
           | returned v=>exact he
           | panicked c=>exact he.elim
           | outgrown=>obtain ⟨_,_,hf⟩:=he;exact hf.elim)⟩
 | halt x w'=>cases x<;>simp only [Oper.uponIn] at h ⊢ <;> exact h.elim
def stp (P:Program) (r:Option Nat) (ops:Array Oper) (i:Nat) (K:Act→World→Prop) (a:Act) (w:World):Prop :=
 match ops[i]? with
 | none=>False
 | some o=>if Region.wanted o (yielded ops a.tmps) then o.wpIn (FF r) 0 P a w K (fun _ _ _=>False) else K (a.put o.dst undef) w
theorem Z1Y {i:Nat} {a:Act} {w:World} {K K':Act→World→Prop} (h:∀ a w,K a w→K' a w) (hh:stp P r ops i K a w):stp P r ops i K' a w:=by
 unfold stp at *
 split
 · simp_all
 · rename_i o ho
   simp only [ho] at hh
   split
   · rename_i hw;simp only [hw,if_true] at hh;exact Oper.wpIn_mono h hh
   · rename_i hw;simp only [hw] at hh;exact h _ _ hh
theorem Z50 {i:Nat} {a:Act} {w:World} {K:Act→World→Prop} {Q:Exit→Act→World→Prop} (h:stp P r ops i K a w):wpOpIn (FF r) 0 P ops Q i K a w:=by
 unfold stp at h
 unfold wpOpIn
 split
 · simp_all
 · rename_i o ho
   simp only [ho] at h
   split
   · rename_i hw;simp only [hw,if_true] at h;exact Zbb h
   · rename_i hw;simp only [hw] at h;exact ⟨fun _ _=>Z2m _ _,h⟩
theorem Z7E {ρ ρ':Operand→Value} (o:Oper) (hs:∀ cs b,o.op ≠ .select cs b) (h:∀ x∈o.op.operands,ρ x=ρ' x) :
   o.semAt r ρ=o.semAt r ρ':=by
 have h1:=execOp_congr (ρ:=ρ) (ρ':=ρ') o hs h
 unfold Oper.semAt
 split
 · rename_i l c hc
   have h2:=resolve_congr (ρ:=ρ) (ρ':=ρ') c o.type (fun x hx=>h x (by rw [hc];simpa [Op.operands] using hx))
   simp only [h2]
 · exact h1
theorem Z6R (o:Oper) (hs:∀ cs b,o.op ≠ .select cs b) (a:Act) (dst:Option Tmp) (v:Value) (h:∀ d,dst=some d→d∉o.looksAt ops) :
   o.semAt r (a.put dst v).eval=o.semAt r a.eval :=
 Z7E o hs fun x hx=>Act.eval_put fun d hd hxd=>h d hd (by
   subst hxd
   exact List.mem_append_left _ (List.mem_filterMap.2 ⟨.tmp d,by simpa using hx,rfl⟩))
def Yld (P:Program) (r:Option Nat) (ops:Array Oper) (C:World→Prop) (o:Oper) (v:Value) (a:Act):Prop :=
 (Region.wanted o (yielded ops a.tmps)=true∧∀ w,C w→(o.semAt r a.eval).run P w = .ok (.value v) w) ∨
 (Region.wanted o (yielded ops a.tmps)=false∧v=undef)
theorem Yld.of_same {C:World→Prop} {o:Oper} {v:Value} {a a':Act} (hy:Yld P r ops C o v a) (he:o.semAt r a'.eval=o.semAt r a.eval)
   (hw:Region.wanted o (yielded ops a'.tmps)=Region.wanted o (yielded ops a.tmps)):Yld P r ops C o v a':=by
 unfold Yld at *
 rw [he,hw]
 exact hy
theorem Yld.stp {C:World→Prop} {i:Nat} {o:Oper} {v:Value} {a:Act} (hi:ops[i]?=some o) (hy:Yld P r ops C o v a)
   {K:Act→World→Prop} {w:World} (hC:C w) (h:K (a.put o.dst v) w):stp P r ops i K a w:=by
 unfold Go.Proofs.YtcfdanhklbklkaaGreat.stp
 simp only [hi]
 rcases hy with ⟨hw,hv⟩ | ⟨hw,rfl⟩
 · simp only [hw,if_true,Oper.wpIn,Z1P,hv w hC,Oper.uponIn];exact ⟨fun _ _=>Z2m _ _,h⟩
 · simp only [hw,Bool.false_eq_true,if_false];exact h
theorem ZfR {C:World→Prop} {j:Nat} {oi oj:Oper} {v:Value} (hj:ops[j]?=some oj) (hap:oi.apart ops oj=true)
   (hsi:∀ cs b,oi.op ≠ .select cs b) (hsj:∀ cs b,oj.op ≠ .select cs b) {K:Act→World→Prop} {a:Act} {w:World}
   (hy:Yld P r ops C oi v a) (h:stp P r ops j K (a.put oi.dst v) w) :
   stp P r ops j (fun a' w'=>Yld P r ops C oi v a'∧K (a'.put oi.dst v) w') a w:=by
 obtain ⟨h1,h2,h3⟩:=Oper.apart_spec hap
 have keep:∀ (a:Act),Yld P r ops C oi v a→∀ u,Yld P r ops C oi v (a.put oj.dst u):=fun a hy u =>
   hy.of_same (Z6R oi hsi a oj.dst u h3) (wanted_put oi a oj.dst u h3)
 have keepD:∀ d,Yld P r ops C oi v { a with defers:=d::a.defers }:=fun d=>hy.of_same rfl rfl
 unfold stp at *
 simp only [hj] at *
 rw [wanted_put oj a oi.dst v h1] at h
 split
 · rename_i hw
   simp only [hw,if_true] at h
   unfold Oper.wpIn at *
   refine ⟨fun _ _=>Z2m _ _,?_⟩
   have h:=h.2
   rw [Z6R oj hsj a oi.dst v h1] at h
   generalize (oj.semAt (FF r).round a.eval).run P w=res at *
   cases res with
   | ok x w' =>
     cases x<;>simp only [Oper.uponIn] at h ⊢
     case value u=>exact ⟨keep a hy u,by rw [← Act.put_comm a v u h2];exact h⟩
     case skip=>exact ⟨keep a hy _,by rw [← Act.put_comm a v undef h2];exact h⟩
     case defer d =>
       refine ⟨keep _ (keepD d) _,?_⟩
       rw [← Act.put_comm _ v undef h2,← Act.put_defers]
       exact h
     case enter f args =>
       refine ⟨h.1,CallsIn.mono h.2 fun e w'' he=>?_⟩
       cases e with
       | returned u=>exact ⟨keep a hy u,by rw [← Act.put_comm a v u h2];exact he⟩
       | panicked c=>exact he
       | outgrown=>exact he
     case row row args=>exact ⟨h.1,RowsIn.mono h.2 fun u w'' he=>⟨keep a hy u,by rw [← Act.put_comm a v u h2];exact he⟩⟩
     case round l f tmps assign body =>
       refine ⟨h.1,RoundIn.mono h.2 fun e w'' he=>?_⟩
       cases e with
       | returned u=>exact ⟨keep a hy u,by rw [← Act.put_comm a v u h2];exact he⟩
       | panicked c=>exact he
       | outgrown=>exact he
   | halt x w'=>cases x<;>simp only [Oper.uponIn] at h ⊢
 · rename_i hw
   simp only [hw] at h
   exact ⟨keep a hy _,by rw [← Act.put_comm a v undef h2];exact h⟩
def Zic (bm:List Nat) (o:Oper):Nat:=o.after.toList.foldl (fun s e=>if Region.binds .any e then s|||2 ^ e.on|||bm.getD e.on 0 else s) 0
def ZiL (ops:Array Oper) (bm:List Nat):Bool :=
 (List.range ops.size).all fun j=>match ops[j]? with
   | none=>true
   | some o=>bm.getD j 0 == Zic bm o&&o.after.toList.all fun e=>!Region.binds .any e||e.on<j
theorem Z6W (bm:List Nat) (i:Nat):∀ (l:List Edge) (s:Nat),(l.foldl (fun s e=>if Region.binds .any e then s|||2 ^ e.on|||bm.getD e.on 0 else s) s).testBit i=true →
   s.testBit i=true∨∃ e∈l,Region.binds .any e=true∧(e.on=i∨(bm.getD e.on 0).testBit i=true):=by
 intro l
 induction l with
 | nil=>intro s h;exact .inl h
 | cons e l ih =>
   intro s h
   rcases ih _ h with h1 | ⟨e',he',hb⟩
   · dsimp only at h1
     by_cases hb:Region.binds .any e=true
     · rw [if_pos hb] at h1
       rw [Nat.testBit_or,Nat.testBit_or,Bool.or_eq_true,Bool.or_eq_true] at h1
       rcases h1 with (h1 | h1) | h1
       · exact .inl h1
       · refine .inr ⟨e,by simp,hb,.inl ?_⟩
         rw [Nat.testBit_two_pow] at h1;simpa using h1
       · exact .inr ⟨e,by simp,hb,.inr h1⟩
     · rw [if_neg hb] at h1;exact .inl h1
   · exact .inr ⟨e',by simp [he'],hb⟩
def Down (ops:Array Oper) (listed:Array Bool):Prop :=
 ∀ j o,ops[j]?=some o→listed.getD j true=true→∀ e∈o.after,Region.binds .any e=true→listed.getD e.on false=true
theorem Z56 {bm:List Nat} (hbm:ZiL ops bm=true) {listed:Array Bool} (hd:Down ops listed) (i:Nat) :
   ∀ j o,ops[j]?=some o→(∀ e∈o.after,Region.binds .any e=true→listed.getD e.on false=true)→(bm.getD j 0).testBit i=true→listed.getD i false=true:=by
 intro j
 induction j using Nat.strongRecOn with
 | _ j ih =>
   intro o ho hall hbit
   have hj:j<ops.size:=(Array.getElem?_eq_some_iff.1 ho).1
   have h1:=List.all_eq_true.1 hbm j (List.mem_range.2 hj)
   simp only [ho,Bool.and_eq_true,beq_iff_eq] at h1
   obtain ⟨h1,h2⟩:=h1
   rw [h1] at hbit
   rcases Z6W bm i _ _ hbit with h3 | ⟨e,he,hb,h3⟩
   · simp at h3
   · have hl:=hall e (by simpa using he) hb
     rcases h3 with h3 | h3
     · rw [← h3];exact hl
     · have hlt:e.on<j:=by
         have:=List.all_eq_true.1 h2 e he
         simpa [hb] using this
       have hsz:e.on<ops.size:=by omega
       refine ih e.on hlt ops[e.on] (by simp) ?_ h3
       refine hd e.on ops[e.on] (by simp) ?_
       rcases Nat.lt_or_ge e.on listed.size with h' | h'
       · simp [h'] at hl ⊢;exact hl
       · simp [Array.getElem?_eq_none h'] at hl
theorem Down.set {listed:Array Bool} (hd:Down ops listed) {i:Nat} (hi:i∈Region.ready .any ops listed):Down ops (listed.setIfInBounds i true):=by
 intro j o ho hj e he hb
 apply getD_set_true
 by_cases hij:i=j
 · subst hij
   obtain ⟨_,o',ho',hall⟩:=mem_ready.1 hi
   rw [ho] at ho'
   cases ho'
   exact hall e he hb
 · rw [getD_set_ne true hij] at hj
   exact hd j o ho hj e he hb
theorem Z92:Down ops (Array.replicate ops.size false):=by
 intro j o ho hj
 have hlt:j<ops.size:=(Array.getElem?_eq_some_iff.1 ho).1
 simp [hlt] at hj
abbrev Z3r:=List (Nat×(World→Prop))
def Zg7:List Nat→Nat→Nat
 | [],_=>0
 | x::_,0=>x
 | _::xs,k+1=>Zg7 xs k
def Zkt (m i:Nat):Bool:=Nat.beq (Nat.mod (Nat.div m (Nat.pow 2 i)) 2) 1
theorem Zb9:∀ (l:List Nat) (k:Nat),Zg7 l k=l.getD k 0
 | [],k=>by simp [Zg7]
 | x::xs,0=>by simp [Zg7]
 | x::xs,k+1=>by simp [Zg7,Zb9 xs k]
theorem ZeC (m i:Nat):Zkt m i=m.testBit i:=by
 rw [Nat.testBit_eq_decide_div_mod_eq]
 show Nat.beq (m / 2 ^ i%2) 1=_
 by_cases h:m / 2 ^ i%2=1
 · rw [h];rfl
 · simp only [h,decide_false];cases hb:Nat.beq (m / 2 ^ i%2) 1 with
   | false=>rfl
   | true=>exact absurd (Nat.eq_of_beq_eq_true hb) h
def pre (bm:List Nat) (j i:Nat):Bool:=Zkt (Zg7 bm j) i
theorem Ziq (bm:List Nat) (j i:Nat):pre bm j i=(bm.getD j 0).testBit i:=by unfold pre;rw [ZeC,Zb9]
def Z0f (bm:List Nat) (j:Nat):Z3r→World→Prop
 | [],_=>True
 | (i,C)::ps,w=>(bif pre bm j i then True else C w)∧Z0f bm j ps w
def keepP (bm:List Nat) (j:Nat):Z3r→Z3r
 | []=>[]
 | (i,C)::ps=>bif pre bm j i then keepP bm j ps else (i,C)::keepP bm j ps
theorem Z2A (bm:List Nat) (j:Nat):∀ (pend:Z3r),(keepP bm j pend).Sublist pend
 | []=>.slnil
 | (i,C)::ps=>by
   unfold keepP
   cases pre bm j i with
   | true=>exact .cons _ (Z2A bm j ps)
   | false=>exact .cons_cons _ (Z2A bm j ps)
theorem Z11 (bm:List Nat) (j:Nat):∀ {p q:Z3r},p.Sublist q→(keepP bm j p).Sublist (keepP bm j q)
 | _,_,.slnil=>.slnil
 | p,(i,C)::q,.cons _ hs=>by
   rw [keepP.eq_2]
   cases pre bm j i with
   | true=>exact Z11 bm j hs
   | false=>exact .cons _ (Z11 bm j hs)
 | (i,C)::p,_::q,.cons_cons _ hs=>by
   rw [keepP.eq_2,keepP.eq_2]
   cases pre bm j i with
   | true=>exact Z11 bm j hs
   | false=>exact .cons_cons _ (Z11 bm j hs)
def AllP (pend:Z3r) (w:World):Prop:=∀ p∈pend,p.2 w
theorem AllP.cons {i:Nat} {C:World→Prop} {pend:Z3r} {w:World} (hC:C w) (h:AllP pend w):AllP ((i,C)::pend) w:=fun p hp=>by
 rcases List.mem_cons.1 hp with h1 | h1
 · subst h1;exact hC
 · exact h p h1
theorem Z0n {bm:List Nat} {j:Nat}:∀ {pend:Z3r} {w:World},Z0f bm j pend w→AllP (keepP bm j pend) w
 | [],_,_=>fun p hp=>by cases hp
 | (i,C)::qs,w,h=>by
   rw [keepP.eq_2]
   cases hb:pre bm j i with
   | true=>exact Z0n h.2
   | false=>exact AllP.cons (by have:=h.1;simpa only [hb,cond_false] using this) (Z0n h.2)
theorem Z2b {bm:List Nat} {j:Nat}:∀ {pend:Z3r} {w:World},AllP pend w→Z0f bm j pend w
 | [],_,_=>trivial
 | (i,C)::qs,w,h=>⟨by cases pre bm j i with | true=>exact trivial | false=>exact h (i,C) (by simp),Z2b fun p hp=>h p (by simp [hp])⟩
theorem Z2g {bm:List Nat} {j:Nat} {w:World}:∀ {p q:Z3r},p.Sublist q→Z0f bm j q w→Z0f bm j p w
 | _,_,.slnil,h=>h
 | _,_,.cons _ hs,h=>Z2g hs h.2
 | _,_,.cons_cons _ hs,h=>⟨h.1,Z2g hs h.2⟩
def Zdj (P:Program) (r:Option Nat) (ops:Array Oper) (bm:List Nat) (X:Act→World→Prop):Nat→Array Bool→Z3r→Act→World→Prop
 | 0,listed,_,a,w=>Region.ready .any ops listed=[]∧X a w
 | fuel+1,listed,pend,a,w =>
   (Region.ready .any ops listed=[]→X a w) ∧
   ∀ i∈Region.ready .any ops listed,stp P r ops i (fun a' w'=>Z0f bm i pend w'∧Zdj P r ops bm X fuel (listed.setIfInBounds i true) (keepP bm i pend) a' w') a w
def Qn (X:Act→World→Prop):Exit→Act→World→Prop
 | .normal,a,w=>X a w
 | _,_,_=>False
theorem Z4I {bm:List Nat} {X:Act→World→Prop}:∀ (fuel:Nat) (listed:Array Bool) (pend:Z3r) (a:Act) (w:World),
   Zdj P r ops bm X fuel listed pend a w→wpAnyIn (FF r) 0 P .any ops (Qn X) fuel listed a w
 | 0,_,_,_,_,h=>h
 | fuel+1,_,_,_,_,h=>⟨h.1,fun i hi=>Z50 (Z1Y (fun a' w' h'=>Z4I fuel _ _ a' w' h'.2) (h.2 i hi))⟩
theorem Z55 {bm:List Nat} {X:Act→World→Prop}:∀ (fuel:Nat) (listed:Array Bool) (p q:Z3r) (a:Act) (w:World),p.Sublist q →
   Zdj P r ops bm X fuel listed q a w→Zdj P r ops bm X fuel listed p a w
 | 0,_,_,_,_,_,_,h=>h
 | fuel+1,_,_,_,_,_,hs,h=>⟨h.1,fun i hi=>Z1Y (fun a' w' h'=>⟨Z2g hs h'.1,Z55 fuel _ _ _ a' w' (Z11 bm i hs) h'.2⟩) (h.2 i hi)⟩
theorem Z4H {bm:List Nat} (hbm:ZiL ops bm=true) {X:Act→World→Prop} {C:World→Prop} {i:Nat} {oi:Oper} {v:Value} (hi:ops[i]?=some oi)
   (hsel:∀ (j:Nat) (o:Oper) cs b,ops[j]?=some o→o.op ≠ .select cs b) :
   ∀ (fuel : Nat) (listed : Array Bool) (pend : Z3r) (a : Act) (w : World),
     (∀ j oj,ops[j]?=some oj→j≠i→listed.getD j true=false→(∀ e∈oj.after,Region.binds .any e=true→e.on≠i)→oi.apart ops oj=true) →
     Down ops listed→i∈Region.ready .any ops listed→AllP pend w→Yld P r ops C oi v a→C w →
     (∀ pend':Z3r,((i,C)::pend=pend'∨((∀ w,C w)∧pend=pend'))→Zdj P r ops bm X fuel (listed.setIfInBounds i true) pend' (a.put oi.dst v) w→Zdj P r ops bm X (fuel+1) listed pend a w):=by
 intro fuel
 induction fuel with
 | zero =>
   intro listed pend a w _ _ hr hp hy hC pend' hpend H
   refine ⟨fun h=>(by rw [h] at hr;cases hr),fun j hj=>?_⟩
   by_cases hji:j=i
   · subst hji;exact hy.stp hi hC ⟨Z2b hp,H⟩
   · have:=ready_mono hj hji
     rw [H.1] at this
     cases this
 | succ fuel ih =>
   intro listed pend a w hfree hdown hr hp hy hC pend' hpend H
   refine ⟨fun h=>(by rw [h] at hr;cases hr),fun j hj=>?_⟩
   by_cases hji:j=i
   · subst hji
     refine hy.stp hi hC ⟨Z2b hp,?_⟩
     rcases hpend with rfl | ⟨_,rfl⟩
     · exact Z55 _ _ _ _ _ _ (List.Sublist.cons _ (Z2A _ _ _)) H
     · exact Z55 _ _ _ _ _ _ (Z2A _ _ _) H
   · have h1:=H.2 j (ready_mono hj hji)
     obtain ⟨hjun,oj,hoj,hall⟩:=mem_ready.1 hj
     have hiun:=(mem_ready.1 hr).1
     have hnl:listed.getD i false=true→False:=fun h1=>by
       rcases Nat.lt_or_ge i listed.size with h' | h'
       · simp [h'] at hiun h1;rw [hiun] at h1;cases h1
       · simp [Array.getElem?_eq_none h'] at h1
     have hnot:∀ e∈oj.after,Region.binds .any e=true→e.on≠i:=fun e he hb heq=>hnl (heq▸hall e he hb)
     have hbit:pre bm j i=false:=by
       cases hb:pre bm j i with
       | false=>rfl
       | true=>exact (hnl (Z56 hbm hdown i j oj hoj hall (Ziq bm j i▸hb))).elim
     have h2:=ZfR hoj (hfree j oj hoj hji hjun hnot) (fun cs b=>hsel i oi cs b hi) (fun cs b=>hsel j oj cs b hoj) hy h1
     have hfree':∀ k ok,ops[k]?=some ok→k≠i→(listed.setIfInBounds j true).getD k true=false →
         (∀ e∈ok.after,Region.binds .any e=true→e.on≠i)→oi.apart ops ok=true:=fun k ok hk hki hun hno=>by
       refine hfree k ok hk hki ?_ hno
       by_cases hjk:j=k
       · subst hjk;exact hjun
       · rw [getD_set_ne true hjk] at hun;exact hun
     refine Z1Y (fun a' w' h3=>?_) h2
     obtain ⟨h3y,h3p,h3⟩:=h3
     rw [Array.setIfInBounds_comm _ _ (Ne.symm hji)] at h3
     rcases hpend with rfl | ⟨hCC,rfl⟩
     · have hC':C w':=by have:=h3p.1;simpa only [hbit,cond_false] using this
       refine ⟨h3p.2,ih (listed.setIfInBounds j true) (keepP bm j pend) a' w' hfree' (hdown.set hj) (ready_mono hr (Ne.symm hji)) (Z0n h3p.2) h3y hC' _ (.inl rfl) ?_⟩
       have:keepP bm j ((i,C)::pend)=(i,C)::keepP bm j pend:=by rw [keepP.eq_2,hbit];rfl
       rw [← this];exact h3
     · exact ⟨h3p,ih (listed.setIfInBounds j true) (keepP bm j pend) a' w' hfree' (hdown.set hj) (ready_mono hr (Ne.symm hji)) (Z0n h3p) h3y (hCC w') _ (.inr ⟨hCC,rfl⟩) h3⟩
inductive Plan where
 | done
 | tk (i:Nat) (p:Plan)
 | ld (i:Nat) (p:Plan)
 | big (i:Nat) (p:Plan)
 | any (p:Plan)
 | alt (i:Nat) (p:Plan) (rest:Plan)
 | stop
def ZcN:Plan→List Nat
 | .alt i _ rest=>i::ZcN rest
 | _=>[]
def ZS (ops:Array Oper):Plan→Bool→Nat→Array Bool→Bool
 | .done,false,_,listed=>Region.ready .any ops listed == []
 | .tk i p,false,fuel+1,listed=>(Region.ready .any ops listed).contains i&&Region.free .any ops listed i&&ZS ops p false fuel (listed.setIfInBounds i true)
 | .ld i p,false,fuel+1,listed=>(Region.ready .any ops listed).contains i&&Region.free .any ops listed i&&ZS ops p false fuel (listed.setIfInBounds i true)
 | .big i p,false,fuel+1,listed=>Region.ready .any ops listed == [i]&&ZS ops p false fuel (listed.setIfInBounds i true)
 | .any p,false,fuel+1,listed=>Region.ready .any ops listed == ZcN p&&ZcN p != []&&ZS ops p true fuel listed
 | .alt i p rest,true,fuel,listed=>ZS ops p false fuel (listed.setIfInBounds i true)&&ZS ops rest true fuel listed
 | .stop,true,_,_=>true
 | _,_,_,_=>false
def Dv (P:Program) (r:Option Nat) (ops:Array Oper) (bm:List Nat) (X:Act→World→Prop):Plan→Z3r→Act→World→Prop
 | .done,_=>X
 | .tk i p,pend=>fun a w=>∃ o v,ops[i]?=some o∧Yld P r ops (fun _=>True) o v a∧Dv P r ops bm X p pend (a.put o.dst v) w
 | .ld i p,pend=>fun a w=>∃ o v C,ops[i]?=some o∧Yld P r ops C o v a∧C w∧Dv P r ops bm X p ((i,C)::pend) (a.put o.dst v) w
 | .big i p,pend=>stp P r ops i (fun a' w'=>Z0f bm i pend w'∧Dv P r ops bm X p (keepP bm i pend) a' w')
 | .any p,pend=>Dv P r ops bm X p pend
 | .alt i p rest,pend=>fun a w=>stp P r ops i (fun a' w'=>Z0f bm i pend w'∧Dv P r ops bm X p (keepP bm i pend) a' w') a w∧Dv P r ops bm X rest pend a w
 | .stop,_=>fun _ _=>True
theorem Zeo {bm:List Nat} (hbm:ZiL ops bm=true) (hs:Region.noSelect ops=true) {X:Act→World→Prop} :
   ∀ (p : Plan) (b : Bool) (fuel : Nat) (listed : Array Bool) (pend : Z3r) (a : Act) (w : World), ZS ops p b fuel listed = true → Down ops listed → AllP pend w →
     Dv P r ops bm X p pend a w→(b=false→Zdj P r ops bm X fuel listed pend a w) ∧
       (b=true→∀ i∈ZcN p,i∈Region.ready .any ops listed→stp P r ops i (fun a' w'=>Z0f bm i pend w'∧Zdj P r ops bm X fuel (listed.setIfInBounds i true) (keepP bm i pend) a' w') a w):=by
 intro p
 induction p with
 | done =>
   intro b fuel listed pend a w hp _ _ h
   cases b with
   | true=>simp [ZS] at hp
   | false =>
   have hr:Region.ready .any ops listed=[]:=by simpa [ZS] using hp
   refine ⟨fun _=>?_,fun h=>by cases h⟩
   cases fuel with
   | zero=>exact ⟨hr,h⟩
   | succ fuel=>exact ⟨fun _=>h,by rw [hr];simp⟩
 | tk i p ih =>
   intro b fuel listed pend a w hp hd ha h
   cases b with
   | true=>simp [ZS] at hp
   | false =>
   refine ⟨fun _=>?_,fun h=>by cases h⟩
   cases fuel with
   | zero=>simp [ZS] at hp
   | succ fuel =>
     simp only [ZS,Bool.and_eq_true] at hp
     obtain ⟨⟨h1,h2⟩,h3⟩:=hp
     obtain ⟨o,v,ho,hy,h⟩:=h
     have hr:i∈Region.ready .any ops listed:=by simpa using h1
     exact Z4H hbm ho (Region.noSelect_spec hs) fuel listed pend a w (Region.free_spec ho h2) hd hr ha hy trivial pend (.inr ⟨fun _=>trivial,rfl⟩)
       ((ih false fuel _ pend _ w h3 (hd.set hr) ha h).1 rfl)
 | ld i p ih =>
   intro b fuel listed pend a w hp hd ha h
   cases b with
   | true=>simp [ZS] at hp
   | false =>
   refine ⟨fun _=>?_,fun h=>by cases h⟩
   cases fuel with
   | zero=>simp [ZS] at hp
   | succ fuel =>
     simp only [ZS,Bool.and_eq_true] at hp
     obtain ⟨⟨h1,h2⟩,h3⟩:=hp
     obtain ⟨o,v,C,ho,hy,hC,h⟩:=h
     have hr:i∈Region.ready .any ops listed:=by simpa using h1
     exact Z4H hbm ho (Region.noSelect_spec hs) fuel listed pend a w (Region.free_spec ho h2) hd hr ha hy hC _ (.inl rfl)
       ((ih false fuel _ _ _ w h3 (hd.set hr) (ha.cons hC) h).1 rfl)
 | big i p ih =>
   intro b fuel listed pend a w hp hd ha h
   cases b with
   | true=>simp [ZS] at hp
   | false =>
   refine ⟨fun _=>?_,fun h=>by cases h⟩
   cases fuel with
   | zero=>simp [ZS] at hp
   | succ fuel =>
     simp only [ZS,Bool.and_eq_true,beq_iff_eq] at hp
     obtain ⟨h1,h3⟩:=hp
     refine ⟨fun h0=>(by rw [h1] at h0;cases h0),fun j hj=>?_⟩
     have hj':=hj
     rw [h1] at hj
     obtain rfl:j=i:=by simpa using hj
     exact Z1Y (fun a' w' h'=>⟨h'.1,(ih false fuel _ _ a' w' h3 (hd.set hj') (Z0n h'.1) h'.2).1 rfl⟩) h
 | any p ih =>
   intro b fuel listed pend a w hp hd ha h
   cases b with
   | true=>simp [ZS] at hp
   | false =>
   refine ⟨fun _=>?_,fun h=>by cases h⟩
   cases fuel with
   | zero=>simp [ZS] at hp
   | succ fuel =>
     simp only [ZS,Bool.and_eq_true,beq_iff_eq,bne_iff_ne] at hp
     obtain ⟨⟨h1,h0⟩,h3⟩:=hp
     refine ⟨fun h2=>absurd (h1▸h2) h0,fun j hj=>?_⟩
     exact (ih true fuel listed pend a w h3 hd ha h).2 rfl j (h1▸hj) hj
 | alt i p rest ihp ihr =>
   intro b fuel listed pend a w hp hd ha h
   cases b with
   | false=>simp [ZS] at hp
   | true =>
   refine ⟨fun h=>(by cases h),fun _ k hk hr=>?_⟩
   simp only [ZS,Bool.and_eq_true] at hp
   obtain ⟨h1,h2⟩:=hp
   rcases List.mem_cons.1 hk with rfl | hk
   · exact Z1Y (fun a' w' h'=>⟨h'.1,(ihp false fuel _ _ a' w' h1 (hd.set hr) (Z0n h'.1) h'.2).1 rfl⟩) h.1
   · exact (ihr true fuel listed pend a w h2 hd ha h.2).2 rfl k hk hr
 | stop =>
   intro b fuel listed pend a w hp hd ha h
   cases b with
   | false=>simp [ZS] at hp
   | true=>exact ⟨fun h=>(by cases h),fun _ k hk=>by cases hk⟩
def ZfG (ops:Array Oper) (bm:List Nat) (p:Plan):Bool :=
 ZiL ops bm&&Region.noSelect ops&&ZS ops p false ops.size (Array.replicate ops.size false)
theorem Z7O {id:Nat} {bm:List Nat} {p:Plan} {Q:Exit→Act→World→Prop} {a:Act} {w:World} (hm:P.follows .mixedOrders=true)
   (hp:ZfG ops bm p=true) (h:Dv P r ops bm (Q .normal) p [] a w.drew):(Code.region id ops true).wpIn (FF r) 0 P Q a w:=by
 simp only [ZfG,Bool.and_eq_true] at hp
 obtain ⟨⟨h1,h2⟩,h3⟩:=hp
 have h4:=(Zeo h1 h2 p false _ _ [] a w.drew h3 Z92 (fun p hp=>by cases hp) h).1 rfl
 refine wpIn_mono (wpIn_region_any hm (Z4I _ _ _ _ _ h4)) fun e a w hq=>?_
 cases e<;>first | exact hq | exact hq.elim
def Z5l (P:Program) (r:Option Nat) (ops:Array Oper) (X:Act→World→Prop):List Nat→Act→World→Prop
 | []=>X
 | i::l=>stp P r ops i (Z5l P r ops X l)
theorem Z8b {X:Act→World→Prop}:∀ (l:List Nat) (a:Act) (w:World),Z5l P r ops X l a w→wpOpsIn (FF r) 0 P ops (Qn X) l a w
 | [],_,_,h=>h
 | i::l,a,w,h=>by
   rw [wpOpsIn_cons]
   exact Z50 (Z1Y (fun a w h=>Z8b l a w h) h)
theorem Z9n {id:Nat} {Q:Exit→Act→World→Prop} {a:Act} {w:World}
   (h:Z5l P r ops (Q .normal) (List.range ops.size) a w):(Code.region id ops false).wpIn (FF r) 0 P Q a w:=by
 refine wpIn_mono (wpIn_region (Z8b _ _ _ h)) fun e a w hq=>?_
 cases e<;>first | exact hq | exact hq.elim
end region
structure Keep (D:List Nat) (w w':World):Prop where
 os:w'.os=w.os
 tape:w'.tape=w.tape
 output:w'.output=w.output
 size:w.heap.size≤w'.heap.size
 block:∀ b,b<w.heap.size→b∉D→w'.heap[b]?=w.heap[b]?
theorem Keep.refl (D:List Nat) (w:World):Keep D w w:=⟨rfl,rfl,rfl,Nat.le_refl _,fun _ _ _=>rfl⟩
theorem Keep.trans {D:List Nat} {a b c:World} (h:Keep D a b) (k:Keep D b c):Keep D a c :=
 ⟨k.os.trans h.os,k.tape.trans h.tape,k.output.trans h.output,Nat.le_trans h.size k.size,
  fun i hi hD=>(k.block i (Nat.lt_of_lt_of_le hi h.size) hD).trans (h.block i hi hD)⟩
theorem Keep.mono {D D':List Nat} {w w':World} (h:Keep D w w') (hD:∀ b,b<w.heap.size→b∈D→b∈D'):Keep D' w w' :=
 ⟨h.os,h.tape,h.output,h.size,fun b hb hn=>h.block b hb fun hd=>hn (hD b hb hd)⟩
abbrev Z8:=List (Nat×Obj)
abbrev Z5:=List (World→Prop)
def ids (H:Z8):List Nat:=H.map (·.1)
@[simp] theorem ids_nil : ids [] = [] := rfl
@[simp] theorem Z5u (p : Nat × Obj) (H : Z8) : ids (p :: H) = p.1 :: ids H := rfl
@[simp] theorem Z34 (G H : Z8) : ids (G ++ H) = ids G ++ ids H := by simp [ids]
theorem ZaX {p:Nat×Obj} {H:Z8} (h:p∈H):p.1∈ids H:=List.mem_map.2 ⟨p,h,rfl⟩
structure St (H:Z8) (R:Z5) (w:World):Prop where
 nd:(ids H).Nodup
 held:∀ p∈H,w.heap[p.1]?=some p.2
 fact:∀ f∈R,∀ w',Keep (ids H) w w'→f w'
theorem St.lt {H:Z8} {R:Z5} {w:World} (h:St H R w) {b:Nat} (hb:b∈ids H):b<w.heap.size:=by
 obtain ⟨p,hp,rfl⟩:=List.mem_map.1 hb
 have:=h.held p hp
 exact (Array.getElem?_eq_some_iff.1 this).1
theorem St.now {H:Z8} {R:Z5} {w:World} (h:St H R w) {f:World→Prop} (hf:f∈R):f w:=h.fact f hf w (Keep.refl _ w)
theorem St.keep {H:Z8} {R:Z5} {w w':World} (h:St H R w) (k:Keep [] w w'):St H R w' where
 nd:=h.nd
 held p hp:=(k.block p.1 (h.lt (ZaX hp)) (by simp)).trans (h.held p hp)
 fact f hf w'' k':=h.fact f hf w'' ((k.mono (fun _ _ h=>by cases h)).trans k')
theorem Z6z (w:World) (n:Nat):Keep [] w { w with drawn:=n }:=⟨rfl,rfl,rfl,Nat.le_refl _,fun _ _ _=>rfl⟩
theorem St.drew {H:Z8} {R:Z5} {w:World} (h:St H R w):St H R w.drew:=h.keep (Z6z w _)
theorem St.drawn {H:Z8} {R:Z5} {w:World} {n:Nat} (h:St H R w):St H R { w with drawn:=n }:=h.keep (Z6z w _)
theorem Z8q {H H':Z8} (p:H.Perm H'):(ids H).Perm (ids H'):=List.Perm.map (fun q:Nat×Obj=>q.1) p
theorem St.perm {H H':Z8} {R:Z5} {w:World} (h:St H R w) (p:H.Perm H'):St H' R w where
 nd:=(Z8q p).nodup_iff.1 h.nd
 held q hq:=h.held q (p.mem_iff.2 hq)
 fact f hf w' k:=h.fact f hf w' (k.mono fun b _ hb=>(Z8q p).mem_iff.2 hb)
theorem St.drop {H G:Z8} {R:Z5} {w:World} (h:St (G++H) R w):St H R w where
 nd:=by have:=h.nd;rw [Z34] at this;exact (List.nodup_append.1 this).2.1
 held q hq:=h.held q (by simp [hq])
 fact f hf w' k:=h.fact f hf w' (k.mono fun b _ hb=>by simp [hb])
theorem St.facts {H:Z8} {R R':Z5} {w:World} (h:St H R w) (hR:∀ f∈R',f∈R):St H R' w:=⟨h.nd,h.held,fun f hf=>h.fact f (hR f hf)⟩
theorem St.also {H:Z8} {R:Z5} {w:World} (h:St H R w) {f:World→Prop} (hf:∀ w',(∀ g∈R,g w')→f w'):St H (f::R) w :=
 ⟨h.nd,h.held,fun g hg w' k=>by
   rcases List.mem_cons.1 hg with h1 | h1
   · subst h1;exact hf w' fun q hq=>h.fact q hq w' k
   · exact h.fact g h1 w' k⟩
theorem ZaQ (w:World) (o:Obj):Keep [] w (w.alloc o) :=
 ⟨rfl,rfl,rfl,by show _≤(w.heap.push o).size;simp,fun b hb _=>by show (w.heap.push o)[b]?=_;rw [Array.getElem?_push,if_neg (by omega)]⟩
theorem St.more {H N:Z8} {R:Z5} {w w':World} (h:St H R w) (k:Keep [] w w') (hn:(ids N).Nodup) (hb:∀ b∈ids N,w.heap.size≤b)
   (hN:∀ p∈N,w'.heap[p.1]?=some p.2):St (N++H) R w' where
 nd:=by
   rw [Z34]
   refine List.nodup_append.2 ⟨hn,h.nd,fun a ha b hb' e=>?_⟩
   subst e
   have:=hb a ha;have:=h.lt hb';omega
 held q hq:=by
   rcases List.mem_append.1 hq with hq | hq
   · exact hN q hq
   · exact (h.keep k).held q hq
 fact f hf w'' k':=by
   refine h.fact f hf w'' ⟨k'.os.trans k.os,k'.tape.trans k.tape,k'.output.trans k.output,Nat.le_trans k.size k'.size,fun b hlt hD=>?_⟩
   rw [k'.block b (Nat.lt_of_lt_of_le hlt k.size) (by rw [Z34];intro hm;rcases List.mem_append.1 hm with hm | hm;(have:=hb b hm;omega);exact hD hm)]
   exact k.block b hlt (by simp)
theorem St.alloc {H:Z8} {R:Z5} {w:World} (h:St H R w) (o:Obj):St ((w.heap.size,o)::H) R (w.alloc o) :=
 h.more (N:=[(w.heap.size,o)]) (ZaQ w o) (by simp) (by simp) (fun p hp=>by
   obtain rfl:=List.mem_singleton.1 hp
   show (w.heap.push o)[w.heap.size]?=_
   simp)
theorem St.set {H:Z8} {R:Z5} {w:World} {b:Nat} {o o':Obj} (h:St ((b,o)::H) R w):St ((b,o')::H) R { w with heap:=w.heap.setIfInBounds b o' } where
 nd:=h.nd
 held q hq:=by
   have hlt:b<w.heap.size:=h.lt (b:=b) (by simp)
   rcases List.mem_cons.1 hq with h1 | h1
   · subst h1;show (w.heap.setIfInBounds b o')[b]?=_;simp [hlt]
   · have hne:b≠q.1:=fun e=>by
       have:=h.nd
       rw [Z5u,List.nodup_cons] at this
       exact this.1 (by dsimp only;rw [e];exact ZaX h1)
     show (w.heap.setIfInBounds b o')[q.1]?=_
     rw [Array.getElem?_setIfInBounds_ne hne]
     exact h.held q (by simp [h1])
 fact f hf w' k:=by
   refine h.fact f hf w' ⟨k.os,k.tape,k.output,by simpa using k.size,fun c hc hD=>?_⟩
   have hne:b≠c:=fun e=>hD (by simp [e])
   have:=k.block c (by simpa using hc) hD
   rw [this];show (w.heap.setIfInBounds b o')[c]?=_
   rw [Array.getElem?_setIfInBounds_ne hne]
theorem St.freeze {H:Z8} {R:Z5} {w:World} {b:Nat} {o:Obj} (h:St ((b,o)::H) R w):St H ((fun w=>w.heap[b]?=some o)::R) w where
 nd:=by have:=h.nd;rw [Z5u,List.nodup_cons] at this;exact this.2
 held q hq:=h.held q (by simp [hq])
 fact f hf w' k:=by
   rcases List.mem_cons.1 hf with h1 | h1
   · subst h1
     have hn:b∉ids H:=by have:=h.nd;rw [Z5u,List.nodup_cons] at this;exact this.1
     rw [k.block b (h.lt (b:=b) (by simp)) hn]
     exact h.held (b,o) (by simp)
   · exact h.fact f h1 w' (k.mono fun c _ hc=>by simp [hc])
class Mem1 (b:Nat) (o:outParam Obj) (H:Z8):Prop where
 mem:(b,o)∈H
instance Mem1.head (b:Nat) (o:Obj) (H:Z8):Mem1 b o ((b,o)::H):=⟨by simp⟩
instance (priority:=low) Mem1.cons (b:Nat) (o:Obj) (p:Nat×Obj) (H:Z8) [m:Mem1 b o H]:Mem1 b o (p::H):=⟨by simp [m.mem]⟩
instance (priority:=low) Mem1.app (b:Nat) (o:Obj) (G H:Z8) [m:Mem1 b o H]:Mem1 b o (G++H):=⟨by simp [m.mem]⟩
class Rep (F F':Z8) (H:Z8) (H':outParam Z8):Prop where
 rep:∃ T,H.Perm (F++T)∧(F'++T).Perm H'
instance Rep.head (p p':Nat×Obj) (T:Z8):Rep [p] [p'] (p::T) (p'::T):=⟨⟨T,.refl _,.refl _⟩⟩
instance Rep.here (F F':Z8) (T:Z8):Rep F F' (F++T) (F'++T):=⟨⟨T,.refl _,.refl _⟩⟩
instance (priority:=low) Rep.cons (F F':Z8) (p:Nat×Obj) (H H':Z8) [m:Rep F F' H H']:Rep F F' (p::H) (p::H') :=
 ⟨by
   obtain ⟨T,h1,h2⟩:=m.rep
   exact ⟨p::T,(List.Perm.cons p h1).trans List.perm_middle.symm,List.perm_middle.trans (List.Perm.cons p h2)⟩⟩
theorem ZC (A B C:Z8):(A++(B++C)).Perm (B++(A++C)):=by
 rw [← List.append_assoc,← List.append_assoc]
 exact List.Perm.append_right _ List.perm_append_comm
instance (priority:=low) Rep.app (F F':Z8) (G H H':Z8) [m:Rep F F' H H']:Rep F F' (G++H) (G++H') :=
 ⟨by
   obtain ⟨T,h1,h2⟩:=m.rep
   exact ⟨G++T,(List.Perm.append_left G h1).trans (ZC _ _ _),(ZC _ _ _).trans (List.Perm.append_left G h2)⟩⟩
theorem St.rep {F F' H H':Z8} {R:Z5} {w w':World} [m:Rep F F' H H'] (h:St H R w) (hs:∀ T,St (F++T) R w→St (F'++T) R w'):St H' R w':=by
 obtain ⟨T,h1,h2⟩:=m.rep
 exact (hs T (h.perm h1)).perm h2
abbrev Zm:=List (Nat×Value)
def lk:Zm→Nat→Option Value
 | [],_=>none
 | (s,v)::L,t=>bif Nat.beq s t then some v else lk L t
structure Knows (n:Nat) (L:Zm) (a:Act):Prop where
 size:a.tmps.size=n
 at_:∀ t v,lk L t=some v→a.tmps[t]?=some v
theorem Knows.put {n:Nat} {L:Zm} {a:Act} (h:Knows n L a) {d:Nat} (hd:d<n) (v:Value):Knows n ((d,v)::L) (a.put (some d) v) where
 size:=by simp [Act.put,h.size]
 at_ t u ht:=by
   unfold lk at ht
   cases hb:Nat.beq d t with
   | true =>
     obtain rfl:=Nat.eq_of_beq_eq_true hb
     simp only [hb,cond_true,Option.some.injEq] at ht
     subst ht
     simp [Act.put,h.size,hd]
   | false =>
     simp only [hb,cond_false] at ht
     have hne:d≠t:=Nat.ne_of_beq_eq_false hb
     simp only [Act.put,Array.getElem?_setIfInBounds_ne hne]
     exact h.at_ t u ht
theorem Knows.putNone {n:Nat} {L:Zm} {a:Act} (h:Knows n L a) (v:Value):Knows n L (a.put none v):=h
theorem Knows.sub {n:Nat} {L L':Zm} {a:Act} (h:Knows n L a) (hs:∀ t v,lk L' t=some v→lk L t=some v):Knows n L' a:=⟨h.size,fun t v ht=>h.at_ t v (hs t v ht)⟩
def ev (L:Zm):Operand→Option Value
 | .tmp t=>lk L t
 | .const v=>some v
 | .global g=>some (.pointer (some ⟨g,0,none⟩))
 | .func f=>some (.func (.func f) #[] #[])
def Z4A (L:Zm) (ρ:Operand→Value):Prop:=∀ x v,ev L x=some v→ρ x=v
theorem Knows.reads {n:Nat} {L:Zm} {a:Act} (h:Knows n L a):Z4A L a.eval:=fun x v hx=>by
 cases x with
 | tmp t=>have:=h.at_ t v hx;simp [Act.eval,this]
 | const u=>exact Option.some.inj hx
 | global g=>exact Option.some.inj hx
 | func f=>exact Option.some.inj hx
def Sy (n:Nat) (L:Zm) (D:List Deferred) (H:Z8) (R:Z5) (X:Act→World→Prop):Prop :=
 ∀ a w,Knows n L a→a.defers=D→St H R w→X a w
section sy
variable {n:Nat} {L:Zm} {D:List Deferred} {H:Z8} {R:Z5} {X:Act→World→Prop}
theorem Sy.weak {L':Zm} {H':Z8} {R':Z5} (h:Sy n L' D H' R' X) (hL:∀ t v,lk L' t=some v→lk L t=some v) (hH:∀ w,St H R w→St H' R' w):Sy n L D H R X :=
 fun a w ha hd hs=>h a w (ha.sub hL) hd (hH w hs)
theorem Sy.heap {H':Z8} {R':Z5} (hH:∀ w,St H R w→St H' R' w) (h:Sy n L D H' R' X):Sy n L D H R X:=fun a w ha hd hs=>h a w ha hd (hH w hs)
theorem Sy.mono {Y:Act→World→Prop} (h:Sy n L D H R X) (hXY:∀ a w,X a w→Y a w):Sy n L D H R Y:=fun a w ha hd hs=>hXY a w (h a w ha hd hs)
theorem Sy.pre {p:Prop} (hp:∀ w,St H R w→p) (h:p→Sy n L D H R X):Sy n L D H R X:=fun a w ha hd hs=>h (hp w hs) a w ha hd hs
variable {P:Program} {r:Option Nat} {Q:Exit→Act→World→Prop}
abbrev wpc (P:Program) (r:Option Nat) (c:Code) (Q:Exit→Act→World→Prop):Act→World→Prop:=fun a w=>c.wpIn (FF r) 0 P Q a w
theorem Z0 {x y:Code} (h:Sy n L D H R (wpc P r x (Exit.then (wpc P r y Q) Q))):Sy n L D H R (wpc P r (.seq x y) Q):=fun a w ha hd hs=>wpIn_seq (h a w ha hd hs)
theorem Z1 (h:Sy n L D H R (Q .normal)):Sy n L D H R (wpc P r .skip Q):=fun a w ha hd hs=>wpIn_skip (h a w ha hd hs)
theorem Z5R {l:Nat} (h:Sy n L D H R (Q .normal)):Sy n L D H R (wpc P r (.label l) Q):=fun a w ha hd hs=>wpIn_label (h a w ha hd hs)
theorem Z7 {id:Nat} (h:Sy n L D H R (Q (.exit id))):Sy n L D H R (wpc P r (.exit id) Q):=fun a w ha hd hs=>wpIn_exit (h a w ha hd hs)
theorem Z4 (h:Sy n L D H R (Q .ret)):Sy n L D H R (wpc P r .ret Q):=fun a w ha hd hs=>wpIn_ret (h a w ha hd hs)
theorem Z3 {id:Nat} {c:Code} (h:Sy n L D H R (wpc P r c (Exit.inBlock id Q))):Sy n L D H R (wpc P r (.block id c) Q):=fun a w ha hd hs=>wpIn_block (h a w ha hd hs)
theorem Z2 {x:Operand} {c d:Code} {t:Bool} (hx:ev L x=some (.bool t)) (ht:t=true→Sy n L D H R (wpc P r c Q)) (hf:t=false→Sy n L D H R (wpc P r d Q)) :
 Sy n L D H R (wpc P r (.cond x c d) Q):=fun a w ha hd hs=>wpIn_cond_split (t:=t) (ha.reads x _ hx) (fun e=>ht e a w ha hd hs) (fun e=>hf e a w ha hd hs)
structure Head where
 L:Zm
 H:Z8
 R:Z5
def Z4G {ι:Type} (n:Nat) (D:List Deferred) (inv:ι→Head) (j:ι):Act→World→Prop:=fun a w=>Knows n (inv j).L a∧a.defers=D∧St (inv j).H (inv j).R w
def Z9y {ι:Type} (n:Nat) (D:List Deferred) (inv:ι→Head) (μ:ι→Nat) (i:ι):Act→World→Prop:=fun a w=>∃ j,μ j<μ i∧Z4G n D inv j a w
theorem Z5Y {c:Code} {ι:Type} (inv:ι→Head) (μ:ι→Nat)
   (round:∀ i,Sy n (inv i).L D (inv i).H (inv i).R (wpc P r c (Exit.then (Z9y n D inv μ i) Q)))
   (i:ι) (a:Act) (w:World) (h1:Knows n (inv i).L a) (h2:a.defers=D) (h3:St (inv i).H (inv i).R w):(Code.loop c).wpIn (FF r) 0 P Q a w:=by
 intro b k cs hro hb hr
 have key:∀ m i a w,μ i=m→Knows n (inv i).L a→a.defers=D→St (inv i).H (inv i).R w →
     ∃ e a' w',Q e a' w'∧ArrivesIn (Machine.fenced P (FF r)) P (lone (b.atR a (.code c::.inLoop c::k)) cs w) b k cs e a' w':=by
   intro m
   induction m using Nat.strongRecOn with
   | _ m ih =>
     intro i a w hm h1 h2 h3
     obtain ⟨e,a₁,w₁,hq,harr⟩:=round i a w h1 h2 h3 b (.inLoop c::k) cs hro hb hr
     cases e with
     | normal =>
       obtain ⟨j,hlt,g1,g2,g3⟩:=hq
       obtain ⟨e₂,a₂,w₂,hq₂,harr₂⟩:=ih (μ j) (hm▸hlt) j a₁ w₁ rfl g1 g2 g3
       exact ⟨e₂,a₂,w₂,hq₂,.of_steps (StepsIn.trans harr (.one (fenced_calm hb hr rfl) stepR_inLoop)) harr₂⟩
     | exit id=>exact ⟨_,a₁,w₁,hq,.pass (x:=.inLoop c) rfl (fun _ _=>.inl (by simp)) harr⟩
     | goto l=>exact ⟨_,a₁,w₁,hq,.pass (x:=.inLoop c) rfl (fun _ _=>.inl (by simp)) harr⟩
     | ret=>exact ⟨_,a₁,w₁,hq,.pass (x:=.inLoop c) rfl (fun _ _=>.inl (by simp)) harr⟩
     | panic ch=>exact ⟨_,a₁,w₁,hq,.pass (x:=.inLoop c) rfl (fun _ _=>.inl (by simp)) harr⟩
     | outgrown=>exact ⟨_,a₁,w₁,hq,.pass (x:=.inLoop c) rfl (fun _ _=>.inl (by simp)) harr⟩
 obtain ⟨e,a',w',hq,harr⟩:=key _ i a w rfl h1 h2 h3
 exact ⟨e,a',w',hq,.of_steps (.one (fenced_calm hb hr rfl) stepR_loop) harr⟩
theorem Zd {c:Code} {ι:Type} (inv:ι→Head) (μ:ι→Nat) (i₀:ι)
   (h₀:Sy n L D H R (Z4G n D inv i₀))
   (round:∀ i,Sy n (inv i).L D (inv i).H (inv i).R (wpc P r c (Exit.then (Z9y n D inv μ i) Q))) :
   Sy n L D H R (wpc P r (.loop c) Q):=by
 intro a w ha hd hs
 obtain ⟨h1,h2,h3⟩:=h₀ a w ha hd hs
 exact Z5Y inv μ round i₀ a w h1 h2 h3
def Sub:Zm→Zm→Prop
 | [],_=>True
 | p::L',L=>lk L p.1=some p.2∧Sub L' L
theorem Sub.nil {L:Zm}:Sub [] L:=trivial
theorem Sub.cons {p:Nat×Value} {L' L:Zm} (h:lk L p.1=some p.2) (hs:Sub L' L):Sub (p::L') L:=⟨h,hs⟩
theorem Sub.lk {L:Zm}:∀ {L':Zm},Sub L' L→∀ t v,lk L' t=some v→Go.Proofs.YtcfdanhklbklkaaGreat.lk L t=some v
 | [],_,t,v,h=>by simp [Go.Proofs.YtcfdanhklbklkaaGreat.lk] at h
 | p::L',hs,t,v,h=>by
   unfold Go.Proofs.YtcfdanhklbklkaaGreat.lk at h
   cases hq:Nat.beq p.1 t with
   | true =>
     obtain rfl:=Nat.eq_of_beq_eq_true hq
     simp only [hq,cond_true,Option.some.injEq] at h
     subst h
     exact hs.1
   | false=>exact Sub.lk hs.2 t v (by simpa only [hq,cond_false] using h)
theorem Zkd {ι:Type} {inv:ι→Head} {j:ι} (hL:Sub (inv j).L L) (hH:∀ w,St H R w→St (inv j).H (inv j).R w):Sy n L D H R (Z4G n D inv j):=fun _ w ha hd' hs=>⟨ha.sub hL.lk,hd',hH w hs⟩
theorem Zx {ι:Type} {inv:ι→Head} {μ:ι→Nat} {i:ι} (j:ι) (hm:μ j<μ i) (hL:Sub (inv j).L L) (hH:∀ w,St H R w→St (inv j).H (inv j).R w) :
 Sy n L D H R (Z9y n D inv μ i):=fun _ w ha hd' hs=>⟨j,hm,ha.sub hL.lk,hd',hH w hs⟩
theorem Zb {id:Nat} {ops:Array Oper} (bm:List Nat) (p:Plan) (hm:P.follows .mixedOrders=true) (hp:ZfG ops bm p=true)
   (h:Sy n L D H R (Dv P r ops bm (Q .normal) p [])):Sy n L D H R (wpc P r (.region id ops true) Q) :=
 fun a w ha hd hs=>Z7O hm hp (h a w.drew ha hd hs.drew)
theorem ZfT {id:Nat} {ops:Array Oper} (h:Sy n L D H R (Z5l P r ops (Q .normal) (List.range ops.size))):Sy n L D H R (wpc P r (.region id ops false) Q) :=
 fun a w ha hd hs=>Z9n (h a w ha hd hs)
end sy
def PE (P:Program) (L:Zm) (o:Oper) (v:Value):Prop:=∀ ρ,Z4A L ρ→∀ w,(execOp ρ o).run P w = .ok (.value v) w
def evs (L:Zm):List Operand→Option (List Value)
 | []=>some []
 | x::xs=>match ev L x,evs L xs with
   | some v,some vs=>some (v::vs)
   | _,_=>none
theorem Z31 {L:Zm} {ρ:Operand→Value} (hρ:Z4A L ρ):∀ (l:List Operand) (vs:List Value),evs L l=some vs→l.map ρ=vs
 | [],vs,h=>by simp [evs] at h;subst h;rfl
 | x::xs,vs,h=>by
   unfold evs at h
   split at h
   · rename_i v us hv hus
     cases h
     simp [hρ _ _ hv,Z31 hρ xs us hus]
   · cases h
section pure
variable {P:Program} {L:Zm} {d:Option Tmp} {ty:TypeId} {pos:String} {af:Array Edge} {g:Option (Nat×Bool)}
theorem PE.move {x:Operand} {v:Value} (hx:ev L x=some v):PE P L ⟨d,.move x,ty,pos,af,g⟩ v:=fun ρ hρ w=>by
 simp [execOp,hρ _ _ hx,Sem.run_pure]
theorem PE.assign {x:Operand} {v:Value} (hx:ev L x=some v):PE P L ⟨d,.assign x,ty,pos,af,g⟩ v:=fun ρ hρ w=>by
 simp [execOp,hρ _ _ hx,Sem.run_pure]
theorem PE.pick {c x y:Operand} {b:Bool} {u v:Value} (hc:ev L c=some (.bool b)) (hx:ev L x=some u) (hy:ev L y=some v) :
   PE P L ⟨d,.pick c x y,ty,pos,af,g⟩ (bif b then u else v):=fun ρ hρ w=>by
 simp only [execOp,hρ _ _ hc,hρ _ _ hx,hρ _ _ hy,asBool]
 cases b<;>simp [Sem.run_bind,Sem.run_pure,Result.andThen]
theorem PE.nilCheck {x:Operand} {a:Addr} (hx:ev L x=some (.pointer (some a))):PE P L ⟨d,.nilCheck x,ty,pos,af,g⟩ (.pointer (some a)):=fun ρ hρ w=>by
 simp [execOp,hρ _ _ hx,Sem.run_pure]
def ZY (P:Program) (T k:Nat):Option Nat :=
 match P.underlying T with
 | some (.struct fs)=>match fs[k]? with
   | some f=>match P.info? f.type with
     | some i=>if i.size=0 then none else some f.offset
     | none=>none
   | none=>none
 | _=>none
theorem Z7A {T k o:Nat} (h:ZY P T k=some o) (b off:Nat) (w:World):(Instr.fieldAt T (.pointer (some ⟨b,off,none⟩)) k).run P w = .ok (.pointer (some ⟨b,off+o,none⟩)) w:=by
 unfold ZY at h
 split at h
 · rename_i fs hu
   split at h
   · rename_i f hf
     split at h
     · rename_i i hi
       split at h
       · cases h
       · rename_i hs
         cases h
         have he:(⟨b,off,none⟩:Addr).add f.offset=⟨b,off+f.offset,none⟩:=by
           unfold Addr.add;split
           · rename_i h0;simp [h0]
           · rfl
         simp [Instr.fieldAt,run_underlying hu,hf,Instr.sureAddr,fieldPlace,sizeOf,typeInfo,hi,hs,Sem.run_bind,Sem.run_pure,Sem.run,Result.andThen,he,program]
     · cases h
   · cases h
 · cases h
theorem PE.fieldAddr {T k o b off:Nat} {x:Operand} (ho:ZY P T k=some o) (hx:ev L x=some (.pointer (some ⟨b,off,none⟩))) :
   PE P L ⟨d,.fieldAddr T x k,ty,pos,af,g⟩ (.pointer (some ⟨b,off+o,none⟩)):=fun ρ hρ w=>by
 simp only [execOp,hρ _ _ hx,Sem.run_bind,Z7A ho,Result.andThen,Sem.run_pure]
def elN (P:Program) (T:Nat):Option Nat :=
 match P.underlying T with
 | some (.slice e)=>(P.info? e).map (·.size)
 | _=>none
def arN (P:Program) (T:Nat):Option (Nat×Nat) :=
 match P.underlying T with
 | some (.array n e)=>(P.info? e).map fun i=>(n,i.size)
 | _=>none
theorem ZB (b off k:Nat):(⟨b,off,none⟩:Addr).add k=⟨b,off+k,none⟩:=by
 unfold Addr.add;split
 · rename_i h0;simp [h0]
 · rfl
theorem PE.indexAddr {T n b off len cap:Nat} {x y:Operand} {k:IntKind} {i:Int} (hT:elN P T=some n) (hx:ev L x=some (.slice (some ⟨b,off,none⟩) len cap)) (hy:ev L y=some (.int k i))
   (h0:0≤i) (hl:i<len):PE P L ⟨d,.indexAddr T x y,ty,pos,af,g⟩ (.pointer (some ⟨b,off+i.toNat*n,none⟩)):=fun ρ hρ w=>by
 unfold elN at hT
 split at hT
 · rename_i e hu
   rw [Option.map_eq_some_iff] at hT
   obtain ⟨ie,hi,rfl⟩:=hT
   simp [execOp,hρ _ _ hx,hρ _ _ hy,Instr.indexAt,asIntOf,run_underlying hu,sizeOf,typeInfo,program,hi,h0,hl,Sem.run_bind,Sem.run_pure,Sem.run,Result.andThen,ZB]
 · cases hT
theorem PE.indexArr {T m n b off:Nat} {x y:Operand} {k:IntKind} {i:Int} (hT:arN P T=some (m,n)) (hx:ev L x=some (.pointer (some ⟨b,off,none⟩))) (hy:ev L y=some (.int k i))
   (h0:0≤i) (hl:i<m):PE P L ⟨d,.indexAddr T x y,ty,pos,af,g⟩ (.pointer (some ⟨b,off+i.toNat*n,none⟩)):=fun ρ hρ w=>by
 unfold arN at hT
 split at hT
 · rename_i m' e hu
   rw [Option.map_eq_some_iff] at hT
   obtain ⟨ie,hi,he⟩:=hT
   cases he
   simp [execOp,hρ _ _ hx,hρ _ _ hy,Instr.indexAt,Instr.sureAddr,asIntOf,run_underlying hu,sizeOf,typeInfo,program,hi,h0,hl,Sem.run_bind,Sem.run_pure,Sem.run,Result.andThen,ZB]
 · cases hT
theorem PE.bool {op:BinOp} {T U:TypeId} {x y:Operand} {k:IntKind} {m n:Int} {b:Bool} (hx:ev L x=some (.int k m)) (hy:ev L y=some (.int k n))
   (hop:op ≠ .shl∧op ≠ .shr∧op ≠ .add∧op ≠ .sub∧op ≠ .mul∧op ≠ .quo∧op ≠ .rem∧op ≠ .and∧op ≠ .or∧op ≠ .xor∧op ≠ .andNot)
   (h:∀ w,(Op.intCmp op m n).run P w = .ok (.bool b) w):PE P L ⟨d,.binOp op T x y U,ty,pos,af,g⟩ (.bool b):=fun ρ hρ w=>by
 have hg:∀ w,(eqGuard op T x y (.int k m) (.int k n)).run P w = .ok () w:=fun w=>by cases op<;>rfl
 have hb:binOp op T (.int k m) (.int k n)=Op.intCmp op m n:=by cases op<;>simp_all [binOp]
 simp only [execOp,hρ _ _ hx,hρ _ _ hy,Sem.run_bind,hg,hb,h,Result.andThen,Sem.run_pure]
theorem PE.lss {T U:TypeId} {x y:Operand} {k:IntKind} {m n:Int} (hx:ev L x=some (.int k m)) (hy:ev L y=some (.int k n)):PE P L ⟨d,.binOp .lss T x y U,ty,pos,af,g⟩ (.bool (decide (m<n))):=PE.bool hx hy (by simp) (fun _=>rfl)
theorem PE.leq {T U:TypeId} {x y:Operand} {k:IntKind} {m n:Int} (hx:ev L x=some (.int k m)) (hy:ev L y=some (.int k n)):PE P L ⟨d,.binOp .leq T x y U,ty,pos,af,g⟩ (.bool (decide (m≤n))):=PE.bool hx hy (by simp) (fun _=>rfl)
theorem PE.gtr {T U:TypeId} {x y:Operand} {k:IntKind} {m n:Int} (hx:ev L x=some (.int k m)) (hy:ev L y=some (.int k n)):PE P L ⟨d,.binOp .gtr T x y U,ty,pos,af,g⟩ (.bool (decide (n<m))):=PE.bool hx hy (by simp) (fun _=>rfl)
theorem PE.geq {T U:TypeId} {x y:Operand} {k:IntKind} {m n:Int} (hx:ev L x=some (.int k m)) (hy:ev L y=some (.int k n)):PE P L ⟨d,.binOp .geq T x y U,ty,pos,af,g⟩ (.bool (decide (n≤m))):=PE.bool hx hy (by simp) (fun _=>rfl)
theorem PE.eql {T U:TypeId} {x y:Operand} {k:IntKind} {m n:Int} (hx:ev L x=some (.int k m)) (hy:ev L y=some (.int k n)):PE P L ⟨d,.binOp .eql T x y U,ty,pos,af,g⟩ (.bool (decide (m=n))) :=
 PE.bool hx hy (by simp) (fun w=>by simp only [Op.intCmp,Sem.run_pure];by_cases h:m=n<;>simp [h])
theorem PE.neq {T U:TypeId} {x y:Operand} {k:IntKind} {m n:Int} (hx:ev L x=some (.int k m)) (hy:ev L y=some (.int k n)):PE P L ⟨d,.binOp .neq T x y U,ty,pos,af,g⟩ (.bool (decide (m≠n))) :=
 PE.bool hx hy (by simp) (fun w=>by simp only [Op.intCmp,Sem.run_pure];by_cases h:m=n<;>simp [h])
theorem PE.arith {op:BinOp} {T U:TypeId} {x y:Operand} {k:IntKind} {m n v:Int} (hx:ev L x=some (.int k m)) (hy:ev L y=some (.int k n))
   (hop:op = .add∨op = .sub∨op = .mul∨op = .quo∨op = .rem)
   (h:∀ w,(binOp op T (.int k m) (.int k n)).run P w = .ok (.int k v) w):PE P L ⟨d,.binOp op T x y U,ty,pos,af,g⟩ (.int k v):=fun ρ hρ w=>by
 have hg:∀ w,(eqGuard op T x y (.int k m) (.int k n)).run P w = .ok () w:=fun w=>by rcases hop with rfl | rfl | rfl | rfl | rfl<;>rfl
 simp only [execOp,hρ _ _ hx,hρ _ _ hy,Sem.run_bind,hg,h,Result.andThen,Sem.run_pure]
theorem PE.addW {T U:TypeId} {x y:Operand} {k:IntKind} {m n:Int} (hx:ev L x=some (.int k m)) (hy:ev L y=some (.int k n)):PE P L ⟨d,.binOp .add T x y U,ty,pos,af,g⟩ (.int k (k.wrap (m+n))) :=
 PE.arith hx hy (by simp) (fun w=>by simp [binOp,Op.intArith,Sem.run_pure])
theorem PE.subW {T U:TypeId} {x y:Operand} {k:IntKind} {m n:Int} (hx:ev L x=some (.int k m)) (hy:ev L y=some (.int k n)):PE P L ⟨d,.binOp .sub T x y U,ty,pos,af,g⟩ (.int k (k.wrap (m-n))) :=
 PE.arith hx hy (by simp) (fun w=>by simp [binOp,Op.intArith,Sem.run_pure])
theorem PE.mulW {T U:TypeId} {x y:Operand} {k:IntKind} {m n:Int} (hx:ev L x=some (.int k m)) (hy:ev L y=some (.int k n)):PE P L ⟨d,.binOp .mul T x y U,ty,pos,af,g⟩ (.int k (k.wrap (m*n))) :=
 PE.arith hx hy (by simp) (fun w=>by simp [binOp,Op.intArith,Sem.run_pure])
theorem PE.quoW {T U:TypeId} {x y:Operand} {k:IntKind} {m n:Int} (hx:ev L x=some (.int k m)) (hy:ev L y=some (.int k n)) (hn:n≠0):PE P L ⟨d,.binOp .quo T x y U,ty,pos,af,g⟩ (.int k (k.wrap (m.tdiv n))) :=
 PE.arith hx hy (by simp) (fun w=>by simp [binOp,Op.intDiv,hn,Sem.run_pure])
theorem PE.remW {T U:TypeId} {x y:Operand} {k:IntKind} {m n:Int} (hx:ev L x=some (.int k m)) (hy:ev L y=some (.int k n)) (hn:n≠0):PE P L ⟨d,.binOp .rem T x y U,ty,pos,af,g⟩ (.int k (m.tmod n)) :=
 PE.arith hx hy (by simp) (fun w=>by simp [binOp,Op.intDiv,hn,Sem.run_pure])
theorem PE.to {o:Oper} {v u:Value} (h:PE P L o v) (e:v=u):PE P L o u:=e▸h
theorem PE.add {T U:TypeId} {x y:Operand} {m n:Int} (hx:ev L x=some (.int .i64 m)) (hy:ev L y=some (.int .i64 n)) (hb : -9223372036854775808≤m+n∧m+n≤9223372036854775807) :
 PE P L ⟨d,.binOp .add T x y U,ty,pos,af,g⟩ (.int .i64 (m+n)):=(PE.addW hx hy).to (by rw [IntWalk.i64_in _ hb])
theorem PE.sub {T U:TypeId} {x y:Operand} {m n:Int} (hx:ev L x=some (.int .i64 m)) (hy:ev L y=some (.int .i64 n)) (hb : -9223372036854775808≤m-n∧m-n≤9223372036854775807) :
 PE P L ⟨d,.binOp .sub T x y U,ty,pos,af,g⟩ (.int .i64 (m-n)):=(PE.subW hx hy).to (by rw [IntWalk.i64_in _ hb])
theorem PE.mul {T U:TypeId} {x y:Operand} {m n:Int} (hx:ev L x=some (.int .i64 m)) (hy:ev L y=some (.int .i64 n)) (hb : -9223372036854775808≤m*n∧m*n≤9223372036854775807) :
 PE P L ⟨d,.binOp .mul T x y U,ty,pos,af,g⟩ (.int .i64 (m*n)):=(PE.mulW hx hy).to (by rw [IntWalk.i64_in _ hb])
theorem PE.quo {T U:TypeId} {x y:Operand} {m n:Int} (hx:ev L x=some (.int .i64 m)) (hy:ev L y=some (.int .i64 n)) (hb:0≤m∧m≤9223372036854775807∧1≤n) :
 PE P L ⟨d,.binOp .quo T x y U,ty,pos,af,g⟩ (.int .i64 (m / n)):=(PE.quoW hx hy (by omega)).to (by rw [IntWalk.i64_quo _ _ hb])
theorem PE.rem {T U:TypeId} {x y:Operand} {k:IntKind} {m n:Int} (hx:ev L x=some (.int k m)) (hy:ev L y=some (.int k n)) (hb:0≤m∧1≤n) :
 PE P L ⟨d,.binOp .rem T x y U,ty,pos,af,g⟩ (.int k (m%n)):=(PE.remW hx hy (by omega)).to (by rw [Int.tmod_eq_emod_of_nonneg hb.1])
theorem PE.not {U:TypeId} {x:Operand} {b:Bool} (hx:ev L x=some (.bool b)):PE P L ⟨d,.unOp .not U x,ty,pos,af,g⟩ (.bool !b):=fun ρ hρ w=>by
 simp [execOp,hρ _ _ hx,Op.unary,Sem.run_bind,Sem.run_pure,Result.andThen]
theorem Z25 {T:TypeId} (hT:P.underlying T=some .bool) (b c:Bool) (w:World):(Op.equal T (.bool b) (.bool c)).run P w = .ok (b == c) w:=by
 show (Op.equalIn (9999+1) T (.bool b) (.bool c)).run P w=_
 rw [Op.equalIn]
 simp only [Sem.run_bind,run_underlying hT,Result.andThen,Sem.run_pure]
theorem PE.eqlBool {T U:TypeId} {x y:Operand} {b c:Bool} (hT:P.underlying T=some .bool) (hx:ev L x=some (.bool b)) (hy:ev L y=some (.bool c)):PE P L ⟨d,.binOp .eql T x y U,ty,pos,af,g⟩ (.bool (b == c)):=fun ρ hρ w=>by
 have hg:∀ w,(eqGuard .eql T x y (.bool b) (.bool c)).run P w = .ok () w:=fun w=>rfl
 have hb:binOp .eql T (.bool b) (.bool c)=(do pure (.bool (← Op.equal T (.bool b) (.bool c)))):=rfl
 simp only [execOp,hρ _ _ hx,hρ _ _ hy,Sem.run_bind,hg,hb,Z25 hT,Result.andThen,Sem.run_pure]
theorem PE.neqBool {T U:TypeId} {x y:Operand} {b c:Bool} (hT:P.underlying T=some .bool) (hx:ev L x=some (.bool b)) (hy:ev L y=some (.bool c)):PE P L ⟨d,.binOp .neq T x y U,ty,pos,af,g⟩ (.bool (!(b == c))):=fun ρ hρ w=>by
 have hg:∀ w,(eqGuard .neq T x y (.bool b) (.bool c)).run P w = .ok () w:=fun w=>rfl
 have hb:binOp .neq T (.bool b) (.bool c)=(do pure (.bool (!(← Op.equal T (.bool b) (.bool c))))):=rfl
 simp only [execOp,hρ _ _ hx,hρ _ _ hy,Sem.run_bind,hg,hb,Z25 hT,Result.andThen,Sem.run_pure]
theorem PE.extract {x:Operand} {l:List Value} {k:Nat} {v:Value} (hx:ev L x=some (.tuple l.toArray)) (hk:l[k]?=some v):PE P L ⟨d,.extract x k,ty,pos,af,g⟩ v:=fun ρ hρ w=>by
 simp [execOp,hρ _ _ hx,Instr.extract,hk,Sem.run_bind,Sem.run_pure,Result.andThen]
theorem PE.makeFunc {f:Fn} {first cap:List Operand} {vf vc:List Value} (hf:evs L first=some vf) (hc:evs L cap=some vc) :
   PE P L ⟨d,.makeFunc f first.toArray cap.toArray,ty,pos,af,g⟩ (.func f vf.toArray vc.toArray):=fun ρ hρ w=>by
 simp [execOp,Instr.makeFunc,Z31 hρ _ _ hf,Z31 hρ _ _ hc,Sem.run_bind,Sem.run_pure,Result.andThen]
def Z7l (P:Program) (T:Nat):Option IntKind:=match P.underlying T with | some (.int k)=>some k | _=>none
theorem PE.convert {S T:TypeId} {x:Operand} {k k':IntKind} {m:Int} (hS:(P.underlying S).isSome=true) (hT:Z7l P T=some k') (hx:ev L x=some (.int k m)) :
   PE P L ⟨d,.convert S T x,ty,pos,af,g⟩ (.int k' (k'.wrap m)):=fun ρ hρ w=>by
 unfold Z7l at hT
 split at hT
 · rename_i q hq
   cases hT
   obtain ⟨u,hu⟩:=Option.isSome_iff_exists.1 hS
   have hc:(Go.convert S T (.int k m)).run P w = .ok (.int k' (k'.wrap m)) w:=by
     unfold Go.convert
     simp only [Sem.run_bind,run_underlying hu,run_underlying hq,Result.andThen]
     rfl
   simp only [execOp,hρ _ _ hx,Sem.run_bind,hc,Result.andThen,Sem.run_pure]
 · cases hT
theorem Z06 {b:Builtin} {args:List Operand} {ts:Array TypeId} {vs:List Value} (hv:args.mapM (ev L)=some vs) {ρ:Operand→Value} (hρ:Z4A L ρ) :
   execOp ρ ⟨d,.call { callee:=.builtin b,args:=args.toArray,argTypes:=ts },ty,pos,af,g⟩=builtin b ts ty (args.toArray.map fun | .const _=>true | _=>false) vs.toArray:=by
 have key:∀ (l:List Operand) (vs:List Value),l.mapM (ev L)=some vs→l.map ρ=vs:=by
   intro l
   induction l with
   | nil=>intro vs h;simp at h;subst h;rfl
   | cons x l ih =>
     intro vs h
     simp only [List.mapM_cons,Option.bind_eq_bind,Option.bind_eq_some_iff,Option.pure_def,Option.some.injEq] at h
     obtain ⟨v,hv,us,hus,rfl⟩:=h
     simp [hρ _ _ hv,ih us hus]
 have e:args.toArray.map ρ=vs.toArray:=by rw [List.map_toArray,key _ _ hv]
 simp only [execOp,resolve,e]
 rfl
def Z2y (P:Program) (T:Nat):Bool:=match P.underlying T with | some (.slice _)=>true | _=>false
theorem PE.lenSl {T:TypeId} {x:Operand} {a:Option Addr} {n c:Nat} (hT:Z2y P T=true) (hx:ev L x=some (.slice a n c)) :
   PE P L ⟨d,.call { callee:=.builtin .len,args := #[x],argTypes := #[T] },ty,pos,af,g⟩ (.int .i64 n):=fun ρ hρ w=>by
 unfold Z2y at hT
 split at hT
 · rename_i e hu
   rw [Z06 (args:=[x]) (vs:=[.slice a n c]) (by simp [hx]) hρ]
   simp [builtin,Builtin.len_,run_underlying hu,goInt,Sem.run_bind,Sem.run_pure,Result.andThen]
 · cases hT
theorem PE.capSl {T:TypeId} {x:Operand} {a:Option Addr} {n c:Nat} (hT:Z2y P T=true) (hx:ev L x=some (.slice a n c)) :
   PE P L ⟨d,.call { callee:=.builtin .cap,args := #[x],argTypes := #[T] },ty,pos,af,g⟩ (.int .i64 c):=fun ρ hρ w=>by
 unfold Z2y at hT
 split at hT
 · rename_i e hu
   rw [Z06 (args:=[x]) (vs:=[.slice a n c]) (by simp [hx]) hρ]
   simp [builtin,Builtin.cap_,run_underlying hu,goInt,Sem.run_bind,Sem.run_pure,Result.andThen]
 · cases hT
theorem PE.min {ts:Array TypeId} {x y:Operand} {k:IntKind} {m n:Int} (hx:ev L x=some (.int k m)) (hy:ev L y=some (.int k n)) :
   PE P L ⟨d,.call { callee:=.builtin .min,args := #[x,y],argTypes:=ts },ty,pos,af,g⟩ (.int k (min m n)):=fun ρ hρ w=>by
 rw [Z06 (args:=[x,y]) (vs:=[.int k m,.int k n]) (by simp [hx,hy]) hρ]
 have:(if n<m then n else m)=Min.min m n:=by rw [Int.min_def];split<;>split<;>omega
 simp [builtin,Builtin.min_,Builtin.min2,this,Sem.run_bind,Sem.run_pure,Result.andThen]
theorem PE.max {ts:Array TypeId} {x y:Operand} {k:IntKind} {m n:Int} (hx:ev L x=some (.int k m)) (hy:ev L y=some (.int k n)) :
   PE P L ⟨d,.call { callee:=.builtin .max,args := #[x,y],argTypes:=ts },ty,pos,af,g⟩ (.int k (max m n)):=fun ρ hρ w=>by
 rw [Z06 (args:=[x,y]) (vs:=[.int k m,.int k n]) (by simp [hx,hy]) hρ]
 have:(if m<n then n else m)=Max.max m n:=by rw [Int.max_def];split<;>split<;>omega
 simp [builtin,Builtin.max_,Builtin.max2,this,Sem.run_bind,Sem.run_pure,Result.andThen]
end pure
theorem Z0g {P:Program} {r:Option Nat} {ρ:Operand→Value} {o:Oper} {w w':World} {x:Next} (h:(execOp ρ o).run P w = .ok x w') (hx:∀ d,x ≠ .defer d) :
   (o.semAt r ρ).run P w = .ok x w':=by
 unfold Oper.semAt
 split
 · rename_i l c hc
   exfalso
   rw [show execOp ρ o=(do pure (.defer (← resolve ρ c o.type))) from by unfold execOp;simp only [hc]] at h
   rw [Sem.run_bind] at h
   cases hr:(resolve ρ c o.type).run P w with
   | ok d w1=>rw [hr] at h;simp only [Result.andThen,Sem.run_pure,Result.ok.injEq] at h;exact hx d h.1.symm
   | halt y w1=>rw [hr] at h;simp [Result.andThen] at h
 · exact h
section ops
variable {P:Program} {r:Option Nat} {ops:Array Oper} {n:Nat} {L:Zm} {D:List Deferred} {H:Z8} {R:Z5} {K:Act→World→Prop}
 {bm:List Nat} {X:Act→World→Prop} {p:Plan} {pend:Z3r}
 {i d:Nat} {op:Op} {ty:TypeId} {pos:String} {af:Array Edge}
theorem Zh (o:Oper) (h:o.guard=none) (y:Nat→Option Bool):Region.wanted o y=true:=by simp [Region.wanted,h]
theorem ZE {L:Zm} {a:Act} (ha:Knows n L a) {j t:Nat} {oj:Oper} {b:Bool} (hj:ops[j]?=some oj) (ht:oj.dst=some t) (hb:lk L t=some (.bool b)) :
   yielded ops a.tmps j=some b:=by
 have:=ha.at_ t _ hb
 unfold yielded
 rw [hj]
 simp [ht,this]
theorem Zp {o:Oper} {v:Value} {a:Act} {w w':World} (ho:ops[i]?=some o) (hw:Region.wanted o (yielded ops a.tmps)=true)
   (h:(execOp a.eval o).run P w = .ok (.value v) w') (hK:K (a.put o.dst v) w'):stp P r ops i K a w:=by
 unfold stp
 rw [ho]
 simp only [hw,if_true,Oper.wpIn,Z1P,Z0g h (by simp),Oper.uponIn]
 exact ⟨fun _ _=>Z2m _ _,hK⟩
theorem Z2R {o:Oper} {a:Act} {w w':World} (ho:ops[i]?=some o) (hw:Region.wanted o (yielded ops a.tmps)=true)
   (h:(execOp a.eval o).run P w = .ok .skip w') (hK:K (a.put o.dst undef) w'):stp P r ops i K a w:=by
 unfold stp
 rw [ho]
 simp only [hw,if_true,Oper.wpIn,Z1P,Z0g h (by simp),Oper.uponIn]
 exact ⟨fun _ _=>Z2m _ _,hK⟩
theorem Z2Q {o:Oper} {f:FuncId} {args:Array Value} {a:Act} {w:World} (ho:ops[i]?=some o) (hw:Region.wanted o (yielded ops a.tmps)=true)
   (h:(execOp a.eval o).run P w = .ok (.enter f args) w) (hK:CallsIn (FF r) 0 P f args w (fun e w'=>∃ v,e = .returned v∧K (a.put o.dst v) w')):stp P r ops i K a w:=by
 unfold stp
 rw [ho]
 simp only [hw,if_true,Oper.wpIn,Z1P,Z0g h (by simp),Oper.uponIn]
 refine ⟨fun _ _=>Z2m _ _,by simp [Z2l],CallsIn.mono hK fun e w' he=>?_⟩
 obtain ⟨v,rfl,hk⟩:=he
 exact hk
theorem sp {v:Value} (ho:ops[i]?=some ⟨some d,op,ty,pos,af,none⟩) (hv:PE P L ⟨some d,op,ty,pos,af,none⟩ v) (hd:Nat.blt d n=true)
   (h:Sy n ((d,v)::L) D H R K):Sy n L D H R (stp P r ops i K):=fun a w ha hD hs =>
 Zp ho (Zh _ rfl _) (hv _ ha.reads w) (h _ w (ha.put (by simpa using hd) v) hD hs)
theorem tk {v:Value} (ho:ops[i]?=some ⟨some d,op,ty,pos,af,none⟩) (hv:PE P L ⟨some d,op,ty,pos,af,none⟩ v) (hd:Nat.blt d n=true)
   (h:Sy n ((d,v)::L) D H R (Dv P r ops bm X p pend)):Sy n L D H R (Dv P r ops bm X (.tk i p) pend):=fun a w ha hD hs =>
 ⟨_,v,ho,.inl ⟨Zh _ rfl _,fun w _=>Z0g (hv _ ha.reads w) (by simp)⟩,h _ w (ha.put (by simpa using hd) v) hD hs⟩
theorem spG {v:Value} {j t:Nat} {b:Bool} {oj:Oper} (ho:ops[i]?=some ⟨some d,op,ty,pos,af,some (j,b)⟩) (hj:ops[j]?=some oj) (ht:oj.dst=some t) (hb:lk L t=some (.bool b))
   (hv:PE P L ⟨some d,op,ty,pos,af,some (j,b)⟩ v) (hd:Nat.blt d n=true) (h:Sy n ((d,v)::L) D H R K):Sy n L D H R (stp P r ops i K):=fun a w ha hD hs =>
 Zp ho (by simp [Region.wanted,ZE ha hj ht hb]) (hv _ ha.reads w) (h _ w (ha.put (by simpa using hd) v) hD hs)
theorem tkG {v:Value} {j t:Nat} {b:Bool} {oj:Oper} (ho:ops[i]?=some ⟨some d,op,ty,pos,af,some (j,b)⟩) (hj:ops[j]?=some oj) (ht:oj.dst=some t) (hb:lk L t=some (.bool b))
   (hv:PE P L ⟨some d,op,ty,pos,af,some (j,b)⟩ v) (hd:Nat.blt d n=true)
   (h:Sy n ((d,v)::L) D H R (Dv P r ops bm X p pend)):Sy n L D H R (Dv P r ops bm X (.tk i p) pend):=fun a w ha hD hs =>
 ⟨_,v,ho,.inl ⟨by simp [Region.wanted,ZE ha hj ht hb],fun w _=>Z0g (hv _ ha.reads w) (by simp)⟩,h _ w (ha.put (by simpa using hd) v) hD hs⟩
theorem spN {o:Oper} {j t:Nat} {b c:Bool} {oj:Oper} (ho:ops[i]?=some o) (hg:o.guard=some (j,b)) (hj:ops[j]?=some oj) (ht:oj.dst=some t) (hb:lk L t=some (.bool c)) (hbc:b=!c)
   (hd:o.dst=some d) (hdn:Nat.blt d n=true) (h:Sy n ((d,undef)::L) D H R K):Sy n L D H R (stp P r ops i K):=fun a w ha hD hs=>by
 have hw:Region.wanted o (yielded ops a.tmps)=false:=by simp [Region.wanted,hg,ZE ha hj ht hb,hbc]
 unfold stp
 rw [ho]
 simp only [hw,Bool.false_eq_true,if_false,hd]
 exact h _ w (ha.put (by simpa using hdn) undef) hD hs
theorem tkN {o:Oper} {j t:Nat} {b c:Bool} {oj:Oper} (ho:ops[i]?=some o) (hg:o.guard=some (j,b)) (hj:ops[j]?=some oj) (ht:oj.dst=some t) (hb:lk L t=some (.bool c)) (hbc:b=!c)
   (hd:o.dst=some d) (hdn:Nat.blt d n=true) (h:Sy n ((d,undef)::L) D H R (Dv P r ops bm X p pend)):Sy n L D H R (Dv P r ops bm X (.tk i p) pend):=fun a w ha hD hs=>by
 have hw:Region.wanted o (yielded ops a.tmps)=false:=by simp [Region.wanted,hg,ZE ha hj ht hb,hbc]
 refine ⟨o,undef,ho,.inr ⟨hw,rfl⟩,?_⟩
 rw [hd]
 exact h _ w (ha.put (by simpa using hdn) undef) hD hs
theorem ldN {o:Oper} {j t:Nat} {b c:Bool} {oj:Oper} (ho:ops[i]?=some o) (hg:o.guard=some (j,b)) (hj:ops[j]?=some oj) (ht:oj.dst=some t) (hb:lk L t=some (.bool c)) (hbc:b=!c)
   (hd:o.dst=some d) (hdn:Nat.blt d n=true) (h:Sy n ((d,undef)::L) D H R (Dv P r ops bm X p ((i,fun _=>True)::pend))):Sy n L D H R (Dv P r ops bm X (.ld i p) pend):=fun a w ha hD hs=>by
 have hw:Region.wanted o (yielded ops a.tmps)=false:=by simp [Region.wanted,hg,ZE ha hj ht hb,hbc]
 refine ⟨o,undef,fun _=>True,ho,.inr ⟨hw,rfl⟩,trivial,?_⟩
 rw [hd]
 exact h _ w (ha.put (by simpa using hdn) undef) hD hs
theorem Z5Z {L:Zm} {a:Act} (ha:Knows n L a) {j t:Nat} {oj:Oper} (hj:ops[j]?=some oj) (ht:oj.dst=some t) (hb:lk L t=some undef):yielded ops a.tmps j=none:=by
 have:=ha.at_ t _ hb
 unfold yielded
 rw [hj]
 simp [ht,this,undef]
theorem spU {o:Oper} {j t:Nat} {b:Bool} {oj:Oper} (ho:ops[i]?=some o) (hg:o.guard=some (j,b)) (hj:ops[j]?=some oj) (ht:oj.dst=some t) (hb:lk L t=some undef)
   (hd:o.dst=some d) (hdn:Nat.blt d n=true) (h:Sy n ((d,undef)::L) D H R K):Sy n L D H R (stp P r ops i K):=fun a w ha hD hs=>by
 have hw:Region.wanted o (yielded ops a.tmps)=false:=by simp [Region.wanted,hg,Z5Z ha hj ht hb]
 unfold stp
 rw [ho]
 simp only [hw,Bool.false_eq_true,if_false,hd]
 exact h _ w (ha.put (by simpa using hdn) undef) hD hs
def Ld (P:Program) (T:TypeId) (a:Addr) (v:Value) (w:World):Prop:=(loadVar T a).run P w = .ok v w
theorem Z1d {T:TypeId} {x:Operand} {a:Addr} {v:Value} {g:Option (Nat×Bool)} {ρ:Operand→Value} (hρ:Z4A L ρ) (hx:ev L x=some (.pointer (some a))) {w:World} (h:Ld P T a v w) :
   (execOp ρ ⟨some d,.load T x,ty,pos,af,g⟩).run P w = .ok (.value v) w:=by
 simp only [execOp,hρ _ _ hx,Instr.loadAt,Instr.sureAddr,Sem.run_bind,Sem.run_pure,Result.andThen,show (loadVar T a).run P w = .ok v w from h]
theorem spL {T:TypeId} {x:Operand} {a:Addr} {v:Value} (ho:ops[i]?=some ⟨some d,.load T x,ty,pos,af,none⟩) (hx:ev L x=some (.pointer (some a)))
   (hl:∀ w,St H R w→Ld P T a v w) (hd:Nat.blt d n=true) (h:Sy n ((d,v)::L) D H R K):Sy n L D H R (stp P r ops i K):=fun b w ha hD hs =>
 Zp ho (Zh _ rfl _) (Z1d ha.reads hx (hl w hs)) (h _ w (ha.put (by simpa using hd) v) hD hs)
theorem ld {T:TypeId} {x:Operand} {a:Addr} {v:Value} (ho:ops[i]?=some ⟨some d,.load T x,ty,pos,af,none⟩) (hx:ev L x=some (.pointer (some a)))
   (hl:∀ w,St H R w→Ld P T a v w) (hd:Nat.blt d n=true) (h:Sy n ((d,v)::L) D H R (Dv P r ops bm X p ((i,Ld P T a v)::pend))):Sy n L D H R (Dv P r ops bm X (.ld i p) pend):=fun b w ha hD hs =>
 ⟨_,v,Ld P T a v,ho,.inl ⟨Zh _ rfl _,fun w hw=>Z0g (Z1d ha.reads hx hw) (by simp)⟩,hl w hs,h _ w (ha.put (by simpa using hd) v) hD hs⟩
theorem Z0E {T:TypeId} {x:Operand} {a:Addr} {v:Value} {j t:Nat} {b:Bool} {oj:Oper} (ho:ops[i]?=some ⟨some d,.load T x,ty,pos,af,some (j,b)⟩) (hj:ops[j]?=some oj) (ht:oj.dst=some t) (hb:lk L t=some (.bool b))
   (hx:ev L x=some (.pointer (some a))) (hl:∀ w,St H R w→Ld P T a v w) (hd:Nat.blt d n=true) (h:Sy n ((d,v)::L) D H R K):Sy n L D H R (stp P r ops i K):=fun c w ha hD hs =>
 Zp ho (by simp [Region.wanted,ZE ha hj ht hb]) (Z1d ha.reads hx (hl w hs)) (h _ w (ha.put (by simpa using hd) v) hD hs)
theorem ldG {T:TypeId} {x:Operand} {a:Addr} {v:Value} {j t:Nat} {b:Bool} {oj:Oper} (ho:ops[i]?=some ⟨some d,.load T x,ty,pos,af,some (j,b)⟩) (hj:ops[j]?=some oj) (ht:oj.dst=some t) (hb:lk L t=some (.bool b))
   (hx:ev L x=some (.pointer (some a))) (hl:∀ w,St H R w→Ld P T a v w) (hd:Nat.blt d n=true)
   (h:Sy n ((d,v)::L) D H R (Dv P r ops bm X p ((i,Ld P T a v)::pend))):Sy n L D H R (Dv P r ops bm X (.ld i p) pend):=fun c w ha hD hs =>
 ⟨_,v,Ld P T a v,ho,.inl ⟨by simp [Region.wanted,ZE ha hj ht hb],fun w hw=>Z0g (Z1d ha.reads hx hw) (by simp)⟩,hl w hs,h _ w (ha.put (by simpa using hd) v) hD hs⟩
abbrev cel (e:TypeId) (l:List Value):Obj:=.cells l.toArray e (0,0)
def Z0h (P:Program) (T:Nat):Bool:=match P.underlying T with | some (.struct _)=>false | some (.array _ _)=>false | some _=>true | none=>false
def Z2a (P:Program) (T:Nat):Option Nat:=match P.underlying T with | some (.struct _)=>(P.info? T).map (·.size) | some (.array _ _)=>(P.info? T).map (·.size) | _=>none
theorem Z0s {T:Nat} (h:Z0h P T=true) (w:World):(isAgg T).run P w = .ok false w:=by
 unfold Z0h at h
 split at h<;>first | cases h | skip
 rename_i u h1 h2 hu
 simp only [isAgg,Sem.run_bind,run_underlying hu,Result.andThen]
 rfl
theorem Z1c {T k:Nat} (h:Z2a P T=some k) (w:World):(isAgg T).run P w = .ok true w∧(sizeOf T).run P w = .ok k w:=by
 unfold Z2a at h
 split at h
 · rename_i fs hu
   rw [Option.map_eq_some_iff] at h
   obtain ⟨i,hi,rfl⟩:=h
   exact ⟨by simp only [isAgg,Sem.run_bind,run_underlying hu,Result.andThen];rfl,by simp [sizeOf,typeInfo,program,hi,Sem.run_bind,Sem.run_pure,Sem.run,Result.andThen]⟩
 · rename_i m e hu
   rw [Option.map_eq_some_iff] at h
   obtain ⟨i,hi,rfl⟩:=h
   exact ⟨by simp only [isAgg,Sem.run_bind,run_underlying hu,Result.andThen];rfl,by simp [sizeOf,typeInfo,program,hi,Sem.run_bind,Sem.run_pure,Sem.run,Result.andThen]⟩
 · cases h
theorem Z52 {T b off:Nat} {v:Value} (hT:Z0h P T=true) {w:World} (h:w.cell? ⟨b,off,none⟩=some v):Ld P T ⟨b,off,none⟩ v w:=by
 unfold Ld loadVar
 simp only [Sem.run_bind,Z0s hT,Result.andThen,Bool.false_eq_true,if_false,run_load,h]
theorem Z9A {T b off:Nat} {vs:List Value} (hT:Z2a P T=some vs.length) {w:World} (h:∀ j v,vs[j]?=some v→w.cell? ⟨b,off+j,none⟩=some v):Ld P T ⟨b,off,none⟩ (.agg vs.toArray) w:=by
 obtain ⟨h1,h2⟩:=Z1c hT w
 have:=run_loadCells_list (P:=P) w ⟨b,off,none⟩ vs (fun j v hv=>by rw [ZB];exact h j v hv)
 unfold Ld loadVar
 simp only [Sem.run_bind,h1,Result.andThen,if_true,h2,this,Sem.run_pure]
theorem Z0H {w:World} {b off:Nat} {c:Array Value} {e:TypeId} {fz:Nat×Nat} (h:w.heap[b]?=some (.cells c e fz)):w.cell? ⟨b,off,none⟩=c[off]?:=by simp [World.cell?,h]
theorem lh {T b off:Nat} {o:Obj} [m:Mem1 b o H] {e:TypeId} {l:List Value} {v:Value} (hT:Z0h P T=true) (ho:o=cel e l) (hv:l[off]?=some v):∀ w,St H R w→Ld P T ⟨b,off,none⟩ v w:=fun w hs=>by
 subst ho
 refine Z52 hT ?_
 rw [Z0H (hs.held _ m.mem)]
 simpa using hv
theorem lhA {T b off k:Nat} {o:Obj} [m:Mem1 b o H] {e:TypeId} {l:List Value} (vs:List Value) (hT:Z2a P T=some k) (ho:o=cel e l) {rest:List Value} (hv:l.drop off=vs++rest) (hk:vs.length=k) :
   ∀ w,St H R w→Ld P T ⟨b,off,none⟩ (.agg vs.toArray) w:=fun w hs=>by
 subst ho hk
 refine Z9A hT fun j v hj=>?_
 rw [Z0H (hs.held _ m.mem)]
 have hlt:j<vs.length:=(List.getElem?_eq_some_iff.1 hj).1
 have:(l.drop off)[j]?=some v:=by rw [hv,List.getElem?_append_left hlt];exact hj
 simpa [List.getElem?_drop] using this
def spl (l:List Value) (off:Nat) (vs:List Value):List Value:=l.take off++vs++l.drop (off+vs.length)
def ZF (P:Program) (T:Nat):Option Nat:=(P.info? T).map (·.size)
theorem Z0U {w:World} {b:Nat} {c c':Array Value} {e:TypeId} (h:w.heap[b]?=some (.cells c e (0,0))):w.setRow b c'={ w with heap:=w.heap.setIfInBounds b (.cells c' e (0,0)) }:=by
 have hlt:b<w.heap.size:=(Array.getElem?_eq_some_iff.1 h).1
 have hget:w.heap[b] = .cells c e (0,0):=by rw [Array.getElem?_eq_getElem hlt] at h;simpa using h
 unfold World.setRow
 congr 1
 apply Array.ext_getElem?
 intro j
 rw [Array.getElem?_modify,Array.getElem?_setIfInBounds]
 by_cases hb:b=j
 · subst hb;simp [hget,hlt]
 · simp [hb]
theorem Z3o {T b off k:Nat} {v:Value} {e:TypeId} {l:List Value} (hT:ZF P T=some k) (hk:v.cells.toList.length=k) (h1:v.cells.toList.all (·.oneCell')=true)
   (hb:Nat.ble (off+v.cells.toList.length) l.length=true) {w:World} (h:w.heap[b]?=some (cel e l)) :
   (storeVar T ⟨b,off,none⟩ v).run P w = .ok () { w with heap:=w.heap.setIfInBounds b (cel e (spl l off v.cells.toList)) }:=by
 unfold ZF at hT
 rw [Option.map_eq_some_iff] at hT
 obtain ⟨i,hi,rfl⟩:=hT
 have hb':off+v.cells.toList.length≤l.length:=Nat.le_of_ble_eq_true hb
 have:=run_storeCells_at (P:=P) b off e v.cells.toList 0 l.toArray w h (by simpa using hb') (fun x hx=>List.all_eq_true.1 h1 x hx)
 rw [Z0U h] at this
 unfold storeVar
 have hsz:v.cells.size=i.size:=by simpa using hk
 simp only [Sem.run_bind,sizeOf,typeInfo,program,Sem.run,hi,Result.andThen,Sem.run_pure,hsz,ne_eq,not_true_eq_false,if_false,this]
 simp [spl]
theorem Z3p {T:TypeId} {x y:Operand} {b off:Nat} {v:Value} {g:Option (Nat×Bool)} {dd:Option Nat} {ρ:Operand→Value} (hρ:Z4A L ρ) (hx:ev L x=some (.pointer (some ⟨b,off,none⟩))) (hy:ev L y=some v) {w w':World}
   (h:(storeVar T ⟨b,off,none⟩ v).run P w = .ok () w'):(execOp ρ ⟨dd,.store T x y,ty,pos,af,g⟩).run P w = .ok .skip w':=by
 simp only [execOp,hρ _ _ hx,hρ _ _ hy,Instr.storeAt,Instr.sureAddr,Sem.run_bind,Sem.run_pure,Result.andThen,h]
theorem sto {T:TypeId} {x y:Operand} {b off k:Nat} {v:Value} {o:Obj} [m:Mem1 b o H] {e:TypeId} {l:List Value} {H':Z8} (ho:ops[i]?=some ⟨none,.store T x y,ty,pos,af,none⟩)
   (hx:ev L x=some (.pointer (some ⟨b,off,none⟩))) (hy:ev L y=some v) (hT:ZF P T=some k) (hc:o=cel e l) (hk:v.cells.toList.length=k) (h1:v.cells.toList.all (·.oneCell')=true)
   (hb:Nat.ble (off+v.cells.toList.length) l.length=true) [rp:Rep [(b,o)] [(b,cel e (spl l off v.cells.toList))] H H']
   (h:Sy n L D H' R K):Sy n L D H R (stp P r ops i K):=fun a w ha hD hs=>by
 subst hc
 refine Z2R ho (Zh _ rfl _) (Z3p ha.reads hx hy (Z3o hT hk h1 hb (hs.held _ m.mem))) ?_
 exact h _ _ (ha.putNone undef) hD (hs.rep (F:=[(b,cel e l)]) (F':=[(b,cel e (spl l off v.cells.toList))]) fun T hT=>St.set hT)
def Zr (P:Program) (T:Nat):Option (List Value):=((P.info? T).bind (·.zero)).map (·.cells.toList)
theorem Z1e {T:Nat} {l:List Value} (h:Zr P T=some l):∃ z:Value,z.cells=l.toArray∧∀ w,(zeroValue T).run P w = .ok z w:=by
 unfold Zr at h
 rw [Option.map_eq_some_iff] at h
 obtain ⟨z,hz,rfl⟩:=h
 rw [Option.bind_eq_some_iff] at hz
 obtain ⟨i,hi,hz⟩:=hz
 exact ⟨z,by simp,fun w=>by simp [zeroValue,typeInfo,program,hi,hz,Sem.run_bind,Sem.run_pure,Sem.run,Result.andThen]⟩
theorem alc {T:TypeId} {l:List Value} (ho:ops[i]?=some ⟨some d,.alloc T,ty,pos,af,none⟩) (hz:Zr P T=some l) (hd:Nat.blt d n=true)
   (h:∀ b,Sy n ((d,.pointer (some ⟨b,0,none⟩))::L) D ((b,cel T l)::H) R K):Sy n L D H R (stp P r ops i K):=fun a w ha hD hs=>by
 obtain ⟨z,hz1,hz2⟩:=Z1e hz
 refine Zp ho (Zh _ rfl _) (v:=.pointer (some ⟨w.heap.size,0,none⟩)) (w':=w.alloc (cel T l)) ?_ (h _ _ _ (ha.put (by simpa using hd) _) hD (hs.alloc _))
 simp only [execOp,Instr.alloc,Sem.run_bind,hz2,Result.andThen,newVar,newRow,hz1,newObj,Sem.run,Sem.run_pure]
 rfl
theorem bx {T:TypeId} {x:Operand} {v:Value} (ho:ops[i]?=some ⟨some d,.box T x,ty,pos,af,none⟩) (hx:ev L x=some v) (hd:Nat.blt d n=true)
   (h:∀ b,Sy n ((d,.pointer (some ⟨b,0,none⟩))::L) D ((b,cel T v.cells.toList)::H) R K):Sy n L D H R (stp P r ops i K):=fun a w ha hD hs=>by
 refine Zp ho (Zh _ rfl _) (v:=.pointer (some ⟨w.heap.size,0,none⟩)) (w':=w.alloc (cel T v.cells.toList)) ?_ (h _ _ _ (ha.put (by simpa using hd) _) hD (hs.alloc _))
 simp only [execOp,ha.reads _ _ hx,Instr.box,newVar,newRow,newObj,Sem.run_bind,Sem.run,Result.andThen,Sem.run_pure]
 rfl
end ops
def Fn (P:Program) (f:FuncId) (args:List Value) (H:Z8) (R:Z5) (Q:Value→Z8→Z5→Prop):Prop :=
 ∀ w,St H R w→CallsIn (FF none) 0 P f args.toArray w (fun e w'=>∃ v H' R',Q v H' R'∧e = .returned v∧St H' R' w')
def FnV (P:Program) (f:FuncId) (args:List Value) (H:Z8) (R:Z5) (v:Value):Prop:=Fn P f args H R (fun u H' R'=>u=v∧H'=H∧R'=R)
theorem Fn.mono {P:Program} {f:FuncId} {args:List Value} {H:Z8} {R:Z5} {Q Q':Value→Z8→Z5→Prop} (h:Fn P f args H R Q) (hq:∀ v H' R',Q v H' R'→Q' v H' R'):Fn P f args H R Q' :=
 fun w hs=>CallsIn.mono (h w hs) fun e w' ⟨v,H',R',q,he,hs'⟩=>⟨v,H',R',hq _ _ _ q,he,hs'⟩
def en:Nat→List Value→Zm
 | _,[]=>[]
 | k,v::vs=>(k,v)::en (k+1) vs
theorem Zfr:∀ (vs:List Value) (k t:Nat) (v:Value),lk (en k vs) t=some v→k≤t∧vs[t-k]?=some v
 | [],_,_,_,h=>by simp [en,lk] at h
 | u::us,k,t,v,h=>by
   unfold en lk at h
   cases hb:Nat.beq k t with
   | true =>
     obtain rfl:=Nat.eq_of_beq_eq_true hb
     simp only [hb,cond_true,Option.some.injEq] at h
     subst h;simp
   | false =>
     simp only [hb,cond_false] at h
     obtain ⟨h1,h2⟩:=Zfr us (k+1) t v h
     refine ⟨by omega,?_⟩
     rw [show t-k=(t-(k+1))+1 from by omega]
     simpa using h2
def Ret (P:Program) (fn:Func) (Q:Value→Z8→Z5→Prop):Exit→Act→World→Prop :=
 bodyPost P fn (fun e w'=>∃ v H' R',Q v H' R'∧e = .returned v∧St H' R' w')
theorem Ze {P:Program} {f:FuncId} {fn:Func} {c:Code} {args:List Value} {H:Z8} {R:Z5} {Q:Value→Z8→Z5→Prop} {n:Nat}
   (hf:P.funcs[f]?=some fn) (hb:fn.body=some c) (hn:fn.ntmps=n) (hl:Nat.ble args.length n=true)
   (h:Sy n (en 0 args) [] H R (wpc P none c (Ret P fn Q))):Fn P f args H R Q:=fun w hs=>by
 have hl':args.length≤n:=Nat.le_of_ble_eq_true hl
 refine callsIn_of_wp hf hb (Z2m _ _) (h _ w ⟨?_,fun t v ht=>?_⟩ rfl hs) rfl
 · simp [hn];omega
 · obtain ⟨_,h2⟩:=Zfr _ _ _ _ ht
   have hlt:t<args.length:=by
     rw [Nat.sub_zero] at h2
     exact (List.getElem?_eq_some_iff.1 h2).1
   simpa [Array.getElem?_append,hlt] using h2
section ends
variable {P:Program} {fn:Func} {n:Nat} {L:Zm} {H:Z8} {R:Z5} {Q:Value→Z8→Z5→Prop}
def Z9h (a:Act):ResultVar→Sem Value
 | .tmp t=>pure (a.tmps.getD t undef)
 | .cell c T=>do loadVar T (← asAddr (a.tmps.getD c undef))
theorem Z9d (fn:Func) (a:Act):results fn a.tmps=(do let vs ← fn.results.mapM (Z9h a);pure (if h:vs.size=1 then vs[0] else .tuple vs)):=by
 unfold results
 congr 2
def RV (P:Program) (n:Nat) (L:Zm) (H:Z8) (R:Z5) (x:ResultVar) (v:Value):Prop :=
 ∀ a w,Knows n L a→St H R w→(Z9h a x).run P w = .ok v w
theorem RV.tmp {t:Nat} {v:Value} (h:lk L t=some v):RV P n L H R (.tmp t) v:=fun a w ha _=>by
 have:=ha.at_ t v h
 simp [Z9h,this,Sem.run_pure]
theorem RV.cell {c:Nat} {T:TypeId} {ad:Addr} {v:Value} (h:lk L c=some (.pointer (some ad))) (hl:∀ w,St H R w→Ld P T ad v w):RV P n L H R (.cell c T) v:=fun a w ha hs=>by
 have:=ha.at_ c _ h
 have h2:(loadVar T ad).run P w = .ok v w:=hl w hs
 simp [Z9h,this,asAddr,Sem.run_bind,Sem.run_pure,Result.andThen,h2]
inductive RVs (P:Program) (n:Nat) (L:Zm) (H:Z8) (R:Z5):List ResultVar→List Value→Prop where
 | nil:RVs P n L H R [] []
 | cons {x:ResultVar} {v:Value} {xs:List ResultVar} {vs:List Value} (h:RV P n L H R x v) (hs:RVs P n L H R xs vs):RVs P n L H R (x::xs) (v::vs)
def ZR:List Value→Value
 | [v]=>v
 | vs=>.tuple vs.toArray
theorem Z2j {xs:List ResultVar} {vs:List Value} (hr:fn.results=xs.toArray) (h:RVs P n L H R xs vs) {a:Act} {w:World} (ha:Knows n L a) (hs:St H R w) :
   (results fn a.tmps).run P w = .ok (ZR vs) w:=by
 have key:∀ (xs:List ResultVar) (vs:List Value),RVs P n L H R xs vs→(xs.mapM (Z9h a)).run P w = .ok vs w:=by
   intro xs vs h
   induction h with
   | nil=>simp [Sem.run_pure]
   | cons h hs' ih =>
     have h1:=h a w ha hs
     simp only [List.mapM_cons,Sem.run_bind,h1,Result.andThen,ih,Sem.run_pure]
 have h2:=key xs vs h
 have h3:(xs.toArray.mapM (Z9h a)).run P w = .ok vs.toArray w:=by
   rw [List.mapM_toArray,map_eq_pure_bind,Sem.run_bind,h2];rfl
 rw [Z9d,hr]
 simp only [Sem.run_bind,h3,Result.andThen,Sem.run_pure]
 rcases vs with _ | ⟨v,_ | ⟨u,us⟩⟩<;>simp [ZR]
theorem Zg {xs:List ResultVar} {vs:List Value} {v:Value} (hr:fn.results=xs.toArray) (h:RVs P n L H R xs vs) (hv:ZR vs=v) {H':Z8} {R':Z5}
   (hq:Q v H' R') (hs:∀ w,St H R w→St H' R' w):Sy n L [] H R (Ret P fn Q .ret):=fun a w ha hD hs0 =>
 ⟨hD,v,hv▸Z2j hr h ha hs0,v,H',R',hq,rfl,hs w hs0⟩
theorem Z1L {xs:List ResultVar} {vs:List Value} {v:Value} (hr:fn.results=xs.toArray) (h:RVs P n L H R xs vs) (hv:ZR vs=v) {H':Z8} {R':Z5}
   (hq:Q v H' R') (hs:∀ w,St H R w→St H' R' w):Sy n L [] H R (Ret P fn Q .normal):=fun a w ha hD hs0 =>
 ⟨hD,v,hv▸Z2j hr h ha hs0,v,H',R',hq,rfl,hs w hs0⟩
end ends
def cal (P : Program) (f : FuncId) : Bool := match P.funcs[f]? with | some fn => !(fn.name == "runtime.NumGoroutine") && fn.body.isSome | none => false
theorem Z1F {P:Program} {f:FuncId} (h:cal P f=true) (args:Array Value) (w:World):(callFunc f args).run P w = .ok (.enter f args) w:=by
 unfold cal at h
 split at h
 · rename_i fn hf
   simp only [Bool.and_eq_true,Bool.not_eq_true'] at h
   have h3:fn.body.isNone=false:=by cases hb:fn.body<;>simp_all
   unfold callFunc
   simp only [Sem.run_bind,program,Sem.run,Result.andThen,hf,h.1,h3,Bool.false_eq_true,if_false,Sem.run_pure]
 · cases h
section call
variable {P:Program} {r:Option Nat} {ops:Array Oper} {n:Nat} {L:Zm} {D:List Deferred} {H:Z8} {R:Z5} {K:Act→World→Prop}
 {i d:Nat} {ty:TypeId} {pos:String} {af:Array Edge}
theorem Z0G {f:FuncId} {args:Array Value} {w:World} {Q:Ending→World→Prop} (h:CallsIn (FF none) 0 P f args w Q):CallsIn (FF r) 0 P f args w Q:=by
 cases r with
 | none=>exact h
 | some l=>exact CallsIn.inRound l h
theorem Z1b {f:FuncId} {c:Operand} {first cap:List Value} {xs:List Operand} {vs:List Value} {ts:Array TypeId} {dd:Option Nat} {g:Option (Nat×Bool)} {ρ:Operand→Value} (hρ:Z4A L ρ)
   (hc:ev L c=some (.func (.func f) first.toArray cap.toArray)) (hx:evs L xs=some vs) (hf:cal P f=true) (w:World) :
   (execOp ρ ⟨dd,.call { callee:=.value c,args:=xs.toArray,argTypes:=ts },ty,pos,af,g⟩).run P w = .ok (.enter f (first++vs++cap).toArray) w:=by
 have e:xs.toArray.map ρ=vs.toArray:=by rw [List.map_toArray,Z31 hρ _ _ hx]
 simp only [execOp,resolve,hρ _ _ hc,Deferred.ofValue,e,Sem.run_bind,Sem.run_pure,Result.andThen,invoke]
 rw [Z1F hf]
 simp
theorem cl {f:FuncId} {xs:List Operand} {vs:List Value} {ts:Array TypeId} {Q:Value→Z8→Z5→Prop}
   (ho:ops[i]?=some ⟨some d,.call { callee:=.value (.func f),args:=xs.toArray,argTypes:=ts },ty,pos,af,none⟩) (hf:cal P f=true) (hd:Nat.blt d n=true) (hx:evs L xs=some vs)
   (hc:Fn P f vs H R Q) (h:∀ v H' R',Q v H' R'→Sy n ((d,v)::L) D H' R' K):Sy n L D H R (stp P r ops i K):=fun a w ha hD hs=>by
 refine Z2Q ho (Zh _ rfl _) (Z1b (first:=[]) (cap:=[]) ha.reads rfl hx hf w) (Z0G (CallsIn.mono (by simpa using hc w hs) ?_))
 rintro e w' ⟨v,H',R',q,rfl,hs'⟩
 exact ⟨v,rfl,h v H' R' q _ _ (ha.put (by simpa using hd) v) hD hs'⟩
theorem clV {f:FuncId} {xs:List Operand} {vs:List Value} {ts:Array TypeId} {v:Value}
   (ho:ops[i]?=some ⟨some d,.call { callee:=.value (.func f),args:=xs.toArray,argTypes:=ts },ty,pos,af,none⟩) (hf:cal P f=true) (hd:Nat.blt d n=true) (hx:evs L xs=some vs)
   (hc:FnV P f vs H R v) (h:Sy n ((d,v)::L) D H R K):Sy n L D H R (stp P r ops i K) :=
 cl ho hf hd hx hc fun _ _ _ ⟨hv,hH,hR⟩=>by subst hv hH hR;exact h
theorem clG {f:FuncId} {xs:List Operand} {vs:List Value} {ts:Array TypeId} {Q:Value→Z8→Z5→Prop} {j t:Nat} {b:Bool} {oj:Oper}
   (ho:ops[i]?=some ⟨some d,.call { callee:=.value (.func f),args:=xs.toArray,argTypes:=ts },ty,pos,af,some (j,b)⟩) (hj:ops[j]?=some oj) (ht:oj.dst=some t) (hb:lk L t=some (.bool b))
   (hf:cal P f=true) (hd:Nat.blt d n=true) (hx:evs L xs=some vs)
   (hc:Fn P f vs H R Q) (h:∀ v H' R',Q v H' R'→Sy n ((d,v)::L) D H' R' K):Sy n L D H R (stp P r ops i K):=fun a w ha hD hs=>by
 refine Z2Q ho (by simp [Region.wanted,ZE ha hj ht hb]) (Z1b (first:=[]) (cap:=[]) ha.reads rfl hx hf w) (Z0G (CallsIn.mono (by simpa using hc w hs) ?_))
 rintro e w' ⟨v,H',R',q,rfl,hs'⟩
 exact ⟨v,rfl,h v H' R' q _ _ (ha.put (by simpa using hd) v) hD hs'⟩
theorem Z6e {f:FuncId} {xs:List Operand} {vs:List Value} {ts:Array TypeId} {v:Value} {j t:Nat} {b:Bool} {oj:Oper}
   (ho:ops[i]?=some ⟨some d,.call { callee:=.value (.func f),args:=xs.toArray,argTypes:=ts },ty,pos,af,some (j,b)⟩) (hj:ops[j]?=some oj) (ht:oj.dst=some t) (hb:lk L t=some (.bool b))
   (hf:cal P f=true) (hd:Nat.blt d n=true) (hx:evs L xs=some vs)
   (hc:FnV P f vs H R v) (h:Sy n ((d,v)::L) D H R K):Sy n L D H R (stp P r ops i K) :=
 clG ho hj ht hb hf hd hx hc fun _ _ _ ⟨hv,hH,hR⟩=>by subst hv hH hR;exact h
theorem clF {f:FuncId} {c:Operand} {first cap:List Value} {xs:List Operand} {vs:List Value} {ts:Array TypeId} {Q:Value→Z8→Z5→Prop}
   (ho:ops[i]?=some ⟨some d,.call { callee:=.value c,args:=xs.toArray,argTypes:=ts },ty,pos,af,none⟩) (hcv:ev L c=some (.func (.func f) first.toArray cap.toArray)) (hf:cal P f=true) (hd:Nat.blt d n=true) (hx:evs L xs=some vs)
   (hc:Fn P f (first++vs++cap) H R Q) (h:∀ v H' R',Q v H' R'→Sy n ((d,v)::L) D H' R' K):Sy n L D H R (stp P r ops i K):=fun a w ha hD hs=>by
 refine Z2Q ho (Zh _ rfl _) (Z1b ha.reads hcv hx hf w) (Z0G (CallsIn.mono (hc w hs) ?_))
 rintro e w' ⟨v,H',R',q,rfl,hs'⟩
 exact ⟨v,rfl,h v H' R' q _ _ (ha.put (by simpa using hd) v) hD hs'⟩
theorem Z5f {f:FuncId} {c:Operand} {first cap:List Value} {xs:List Operand} {vs:List Value} {ts:Array TypeId} {v:Value}
   (ho:ops[i]?=some ⟨some d,.call { callee:=.value c,args:=xs.toArray,argTypes:=ts },ty,pos,af,none⟩) (hcv:ev L c=some (.func (.func f) first.toArray cap.toArray)) (hf:cal P f=true) (hd:Nat.blt d n=true) (hx:evs L xs=some vs)
   (hc:FnV P f (first++vs++cap) H R v) (h:Sy n ((d,v)::L) D H R K):Sy n L D H R (stp P r ops i K) :=
 clF ho hcv hf hd hx hc fun _ _ _ ⟨hv,hH,hR⟩=>by subst hv hH hR;exact h
theorem ZkN {f:FuncId} {c:Operand} {first cap:List Value} {xs:List Operand} {vs:List Value} {ts:Array TypeId} {Q:Value→Z8→Z5→Prop} {j t:Nat} {b:Bool} {oj:Oper}
   (ho:ops[i]?=some ⟨some d,.call { callee:=.value c,args:=xs.toArray,argTypes:=ts },ty,pos,af,some (j,b)⟩) (hj:ops[j]?=some oj) (ht:oj.dst=some t) (hb:lk L t=some (.bool b))
   (hcv:ev L c=some (.func (.func f) first.toArray cap.toArray)) (hf:cal P f=true) (hd:Nat.blt d n=true) (hx:evs L xs=some vs)
   (hc:Fn P f (first++vs++cap) H R Q) (h:∀ v H' R',Q v H' R'→Sy n ((d,v)::L) D H' R' K):Sy n L D H R (stp P r ops i K):=fun a w ha hD hs=>by
 refine Z2Q ho (by simp [Region.wanted,ZE ha hj ht hb]) (Z1b ha.reads hcv hx hf w) (Z0G (CallsIn.mono (hc w hs) ?_))
 rintro e w' ⟨v,H',R',q,rfl,hs'⟩
 exact ⟨v,rfl,h v H' R' q _ _ (ha.put (by simpa using hd) v) hD hs'⟩
theorem ZhG {f:FuncId} {c:Operand} {first cap:List Value} {xs:List Operand} {vs:List Value} {ts:Array TypeId} {v:Value} {j t:Nat} {b:Bool} {oj:Oper}
   (ho:ops[i]?=some ⟨some d,.call { callee:=.value c,args:=xs.toArray,argTypes:=ts },ty,pos,af,some (j,b)⟩) (hj:ops[j]?=some oj) (ht:oj.dst=some t) (hb:lk L t=some (.bool b))
   (hcv:ev L c=some (.func (.func f) first.toArray cap.toArray)) (hf:cal P f=true) (hd:Nat.blt d n=true) (hx:evs L xs=some vs)
   (hc:FnV P f (first++vs++cap) H R v) (h:Sy n ((d,v)::L) D H R K):Sy n L D H R (stp P r ops i K) :=
 ZkN ho hj ht hb hcv hf hd hx hc fun _ _ _ ⟨hv,hH,hR⟩=>by subst hv hH hR;exact h
theorem bg {bm:List Nat} {X:Act→World→Prop} {p:Plan} {pend:Z3r} (hp:∀ w,St H R w→Z0f bm i pend w) (h:Sy n L D H R (Dv P r ops bm X p (keepP bm i pend))) :
 Sy n L D H R (fun a w=>Z0f bm i pend w∧Dv P r ops bm X p (keepP bm i pend) a w):=fun a w ha hD hs=>⟨hp w hs,h a w ha hD hs⟩
end call
section steps
variable {P:Program} {r:Option Nat} {ops:Array Oper} {n:Nat} {L:Zm} {D:List Deferred} {H:Z8} {R:Z5} {X:Act→World→Prop} {bm:List Nat} {p q:Plan} {pend:Z3r} {i j:Nat} {l:List Nat} {Q:Exit→Act→World→Prop} {id id':Nat}
theorem Z9 (h:Sy n L D H R (Q (.exit id))):Sy n L D H R (Exit.then X Q (.exit id)):=h
theorem Zk (h:Sy n L D H R (Q .normal)):Sy n L D H R (Exit.inBlock id Q (.exit id)):=fun a w ha hD hs=>by
 have:=h a w ha hD hs
 simpa [Exit.inBlock] using this
theorem ZX (hne:id'≠id) (h:Sy n L D H R (Q (.exit id'))):Sy n L D H R (Exit.inBlock id Q (.exit id')):=fun a w ha hD hs=>by
 have:=h a w ha hD hs
 simpa [Exit.inBlock,hne] using this
theorem Z1o (h:Sy n L D H R (stp P r ops i (fun a w=>Z0f bm i pend w∧Dv P r ops bm X p (keepP bm i pend) a w))) (h':Sy n L D H R (Dv P r ops bm X q pend)):Sy n L D H R (Dv P r ops bm X (.alt i p q) pend):=fun a w ha hD hs=>⟨h a w ha hD hs,h' a w ha hD hs⟩
theorem Z3f:Sy n L D H R (Dv P r ops bm X .stop pend):=fun _ _ _ _ _=>trivial
theorem Zei {id:Nat} {ops:Array Oper} (l:List Nat) (hl:List.range ops.size=l) (h:Sy n L D H R (Z5l P r ops (Q .normal) l)):Sy n L D H R (wpc P r (.region id ops false) Q):=ZfT (hl▸h)
theorem ZfS {t:Nat} {b:Bool} (hb:lk L t=some (.bool b)) (h1:b=true→Sy n ((t,.bool true)::L) D H R X) (h0:b=false→Sy n ((t,.bool false)::L) D H R X):Sy n L D H R X:=by
 have key:∀ c,b=c→∀ u v,lk ((t,.bool c)::L) u=some v→lk L u=some v:=fun c hc u v hu=>by
   unfold lk at hu
   cases hq:Nat.beq t u with
   | true =>
     obtain rfl:=Nat.eq_of_beq_eq_true hq
     simp only [hq,cond_true,Option.some.injEq] at hu
     rw [hb,hc,hu]
   | false=>simpa only [hq,cond_false] using hu
 cases b with
 | true=>exact (h1 rfl).weak (key true rfl) (fun _ h=>h)
 | false=>exact (h0 rfl).weak (key false rfl) (fun _ h=>h)
theorem Zt {x:Operand} {c d:Code} (hx:ev L x=some (.bool true)) (h:Sy n L D H R (wpc P r c Q)):Sy n L D H R (wpc P r (.cond x c d) Q):=Z2 hx (fun _=>h) (fun e=>by cases e)
theorem Zq {x:Operand} {c d:Code} (hx:ev L x=some (.bool false)) (h:Sy n L D H R (wpc P r d Q)):Sy n L D H R (wpc P r (.cond x c d) Q):=Z2 hx (fun e=>by cases e) (fun _=>h)
def Zen {ι:Type} (n:Nat) (D:List Deferred) (hd:ι→Head):Exit→Act→World→Prop
 | .normal,a,w=>∃ j,Z4G n D hd j a w
 | _,_,_=>False
theorem ZbI {c:Code} {ι:Type} (hd:ι→Head) (h1:Sy n L D H R (wpc P r c (Zen n D hd)))
   (h2:∀ j,Sy n (hd j).L D (hd j).H (hd j).R (Q .normal)):Sy n L D H R (wpc P r c Q):=fun a w ha hD hs=>by
 refine wpIn_mono (h1 a w ha hD hs) fun e a' w' he=>?_
 cases e<;>first | exact he.elim | skip
 obtain ⟨j,g1,g2,g3⟩:=he
 exact h2 j a' w' g1 g2 g3
theorem ZbJ {ι:Type} {hd:ι→Head} (j:ι) (hL:Sub (hd j).L L) (hH:∀ w,St H R w→St (hd j).H (hd j).R w) :
 Sy n L D H R (Zen n D hd .normal):=fun a w ha hD hs=>⟨j,ha.sub hL.lk,hD,hH w hs⟩
end steps
def Z6p (place:Nat→Option (Nat×Nat)):List Value→List (Nat×Value)→Option (List Value)
 | cells,[]=>some cells
 | cells,(i,v)::rest =>
   match place i with
   | none=>none
   | some (off,size)=>bif Nat.beq v.cells.toList.length size&&Nat.ble (off+v.cells.toList.length) cells.length then Z6p place (spl cells off v.cells.toList) rest else none
theorem Z6w:∀ (vs:List Value) (off k:Nat) (cs:Array Value),off+k+vs.length≤cs.size →
   ((vs.zipIdx k).foldl (fun cs (x:Value×Nat)=>cs.setIfInBounds (off+x.2) x.1) cs).toList=spl cs.toList (off+k) vs
 | [],off,k,cs,_=>by simp [spl]
 | v::vs,off,k,cs,h=>by
   simp only [List.length_cons] at h
   rw [List.zipIdx_cons,List.foldl_cons,Z6w vs off (k+1) _ (by simp;omega)]
   have e:=list_seg_step cs.toList (off+k) v vs (by simp;omega)
   simp only [spl,Array.toList_setIfInBounds,List.length_cons]
   simpa [Nat.add_assoc] using e
theorem Z42 (place:Nat→Option (Nat×Nat)):∀ (parts:List (Nat×Value)) (cells out:List Value),Z6p place cells parts=some out→Instr.fill place cells.toArray parts=some out.toArray
 | [],cells,out,h=>by simp [Z6p] at h;subst h;rfl
 | (i,v)::rest,cells,out,h=>by
   unfold Z6p at h
   unfold Instr.fill
   split at h
   · cases h
   · rename_i off size hp
     rw [hp]
     cases hc:(Nat.beq v.cells.toList.length size&&Nat.ble (off+v.cells.toList.length) cells.length) with
     | false=>rw [hc] at h;cases h
     | true =>
       rw [hc] at h
       simp only [cond_true] at h
       simp only [Bool.and_eq_true] at hc
       have h1:v.cells.size=size:=by simpa using Nat.eq_of_beq_eq_true hc.1
       have h2:off+v.cells.size≤cells.length:=by simpa using Nat.le_of_ble_eq_true hc.2
       have h3:¬ (v.cells.size≠size∨off+v.cells.size > cells.toArray.size):=by simp;omega
       have h4:(decide (v.cells.size≠size)||decide (off+v.cells.size > cells.toArray.size))=false:=by simp;omega
       simp only [h4,Bool.false_eq_true,if_false]
       rw [← Z42 place rest _ out h]
       congr 1
       have h5:=Z6w v.cells.toList off 0 cells.toArray (by simp;omega)
       apply Array.toList_inj.1
       rw [← Array.foldl_toList]
       simpa using h5
def ZP (P:Program) (T:Nat):Option (List (Nat×Nat)) :=
 match P.underlying T with
 | some (.struct fs)=>fs.toList.mapM fun f=>(P.info? f.type).map fun i=>(f.offset,i.size)
 | _=>none
theorem Z4V {P:Program}:∀ (fs:List Field) (l:List (Nat×Nat)),(fs.mapM fun f=>(P.info? f.type).map fun i=>(f.offset,i.size))=some l →
   ∀ w,(fs.mapM (fun f=>(do pure (f.offset,← sizeOf f.type):Sem (Nat×Nat)))).run P w = .ok l w
 | [],l,h,w=>by simp at h;subst h;simp [Sem.run_pure]
 | f::fs,l,h,w=>by
   simp only [List.mapM_cons,Option.bind_eq_bind,Option.bind_eq_some_iff,Option.pure_def,Option.some.injEq] at h
   obtain ⟨x,hx,us,hus,rfl⟩:=h
   rw [Option.map_eq_some_iff] at hx
   obtain ⟨i,hi,rfl⟩:=hx
   have h1:=Z4V fs us hus w
   have h2:(sizeOf f.type).run P w = .ok i.size w:=by simp [sizeOf,typeInfo,program,hi,Sem.run_bind,Sem.run_pure,Sem.run,Result.andThen]
   simp only [List.mapM_cons,Sem.run_bind,h2,Result.andThen,h1,Sem.run_pure]
section build
variable {P:Program} {L:Zm} {d:Option Tmp} {ty:TypeId} {pos:String} {af:Array Edge} {g:Option (Nat×Bool)}
def evp (L:Zm):List (Nat×Operand)→Option (List (Nat×Value))
 | []=>some []
 | (k,x)::xs=>match ev L x,evp L xs with
   | some v,some vs=>some ((k,v)::vs)
   | _,_=>none
theorem Z41 {ρ:Operand→Value} (hρ:Z4A L ρ):∀ (l:List (Nat×Operand)) (vs:List (Nat×Value)),evp L l=some vs→(l.map fun (k,x)=>(k,ρ x))=vs
 | [],vs,h=>by simp [evp] at h;subst h;rfl
 | (k,x)::xs,vs,h=>by
   unfold evp at h
   split at h
   · rename_i v us hv hus
     cases h
     simp [hρ _ _ hv,Z41 hρ xs us hus]
   · cases h
theorem PE.build {T:TypeId} {parts:List (Nat×Operand)} {vs:List (Nat×Value)} {pl:List (Nat×Nat)} {z out:List Value} (hp:ZP P T=some pl) (hz:Zr P T=some z) (hx:evp L parts=some vs)
   (hf:Z6p (fun i=>pl[i]?) z vs=some out):PE P L ⟨d,.build T parts.toArray,ty,pos,af,g⟩ (.agg out.toArray):=fun ρ hρ w=>by
 unfold ZP at hp
 split at hp
 · rename_i fs hu
   have h1:=Z4V _ _ hp w
   have h2:(Array.mapM (fun f=>(do pure (f.offset,← sizeOf f.type):Sem (Nat×Nat))) fs).run P w = .ok pl.toArray w:=by
     rw [show fs=fs.toList.toArray from by simp,List.mapM_toArray,map_eq_pure_bind,Sem.run_bind,h1];rfl
   obtain ⟨zv,hz1,hz2⟩:=Z1e hz
   have h3:=Z42 _ _ _ _ hf
   have e:(parts.toArray.map fun (k,x)=>(k,ρ x))=vs.toArray:=by rw [List.map_toArray,Z41 hρ _ _ hx]
   simp only [execOp,e,Instr.build,Sem.run_bind,hz2,Result.andThen,run_underlying hu,h2,hz1]
   have e2:(fun x:Nat=>pl.toArray[x]?)=(fun i:Nat=>pl[i]?):=by funext i;simp
   rw [e2,h3]
   simp [Sem.run_pure]
 · cases hp
theorem PE.zero {T:TypeId} {l:List Value} (hT:(ZP P T).isSome=true∨(arN P T).isSome=true) (hz:Zr P T=some l):PE P L ⟨d,.build T #[],ty,pos,af,g⟩ (.agg l.toArray):=fun ρ hρ w=>by
 obtain ⟨zv,hz1,hz2⟩:=Z1e hz
 rcases hT with hT | hT
 · obtain ⟨pl,hp⟩:=Option.isSome_iff_exists.1 hT
   exact PE.build (parts:=[]) (vs:=[]) hp hz rfl rfl ρ hρ w
 · obtain ⟨mn,hmn⟩:=Option.isSome_iff_exists.1 hT
   unfold arN at hmn
   split at hmn
   · rename_i m e hu
     rw [Option.map_eq_some_iff] at hmn
     obtain ⟨ie,hi,_⟩:=hmn
     simp [execOp,Instr.build,Sem.run_bind,hz2,Result.andThen,run_underlying hu,sizeOf,typeInfo,program,hi,Sem.run,Sem.run_pure,hz1,Instr.fill]
   · cases hmn
theorem PE.buildArr {T m s:TypeId} {parts:List (Nat×Operand)} {vs:List (Nat×Value)} {z out:List Value} (hp:arN P T=some (m,s)) (hz:Zr P T=some z) (hx:evp L parts=some vs)
   (hf:Z6p (fun i=>some (i*s,s)) z vs=some out):PE P L ⟨d,.build T parts.toArray,ty,pos,af,g⟩ (.agg out.toArray):=fun ρ hρ w=>by
 unfold arN at hp
 split at hp
 · rename_i m' e hu
   rw [Option.map_eq_some_iff] at hp
   obtain ⟨ie,hi,he⟩:=hp
   cases he
   obtain ⟨zv,hz1,hz2⟩:=Z1e hz
   have h3:=Z42 _ _ _ _ hf
   have e:(parts.toArray.map fun (k,x)=>(k,ρ x))=vs.toArray:=by rw [List.map_toArray,Z41 hρ _ _ hx]
   simp only [execOp,e,Instr.build,Sem.run_bind,hz2,Result.andThen,run_underlying hu,sizeOf,typeInfo,program,hi,Sem.run,Sem.run_pure,hz1,h3]
 · cases hp
end build
section bslice
variable {P:Program} {r:Option Nat} {ops:Array Oper} {n:Nat} {L:Zm} {D:List Deferred} {H:Z8} {R:Z5} {K:Act→World→Prop}
 {i d:Nat} {ty:TypeId} {pos:String} {af:Array Edge}
def slE (P:Program) (T:Nat):Option (Nat×Nat):=match P.underlying T with | some (.slice e)=>(P.info? e).map fun i=>(e,i.size) | _=>none
def Z0Y (k:Nat) (z:List Value):List Value:=(List.range (k*z.length)).map fun j=>z.toArray[j%z.length]!
theorem bsl {T e:TypeId} {s k:Nat} {parts:List (Nat×Operand)} {vs:List (Nat×Value)} {z out:List Value}
   (ho:ops[i]?=some ⟨some d,.buildSlice T k parts.toArray,ty,pos,af,none⟩) (hp:slE P T=some (e,s)) (hz:Zr P e=some z) (hzs:z.length=s) (hks:Nat.ble (k*s) 16777216=true) (hs0:Nat.blt 0 (k*s)=true)
   (hx:evp L parts=some vs) (hf:Z6p (fun i=>some (i*s,s)) (Z0Y k z) vs=some out) (hd:Nat.blt d n=true)
   (h:∀ b,Sy n ((d,.slice (some ⟨b,0,none⟩) k k)::L) D ((b,cel e out)::H) R K):Sy n L D H R (stp P r ops i K):=fun a w ha hD hs=>by
 unfold slE at hp
 split at hp
 · rename_i e' hu
   rw [Option.map_eq_some_iff] at hp
   obtain ⟨ie,hi,he⟩:=hp
   cases he
   obtain ⟨zv,hz1,hz2⟩:=Z1e hz
   have h3:=Z42 _ _ _ _ hf
   have e1:(parts.toArray.map fun (k,x)=>(k,a.eval x))=vs.toArray:=by rw [List.map_toArray,Z41 ha.reads _ _ hx]
   have hks':¬ (k*ie.size > 2 ^ 24):=Nat.not_lt.2 (Nat.le_of_ble_eq_true hks)
   have hs0':¬ (k*ie.size=0):=fun h0=>by rw [h0] at hs0;cases hs0
   refine Zp ho (Zh _ rfl _) (v:=.slice (some ⟨w.heap.size,0,none⟩) k k) (w':=w.alloc (cel e out)) ?_ (h _ _ _ (ha.put (by simpa using hd) _) hD (hs.alloc _))
   have e2:(Array.map (fun x=>zv.cells[x%zv.cells.size]!) (Array.range (k*ie.size)))=(Z0Y k z).toArray:=by
     rw [hz1,← List.toArray_range,List.map_toArray];simp only [Z0Y,hzs,List.size_toArray]
   simp only [execOp,e1,Instr.buildSlice,Sem.run_bind,run_underlying hu,Result.andThen,sizeOf,typeInfo,program,hi,Sem.run,Sem.run_pure,hks',hs0',if_false,hz2,hz1]
   rw [hz1] at e2
   rw [e2,h3]
   simp [newRow,newObj,Sem.run_bind,Sem.run,Sem.run_pure,Result.andThen]
 · cases hp
end bslice
theorem St.tail {p:Nat×Obj} {H:Z8} {R:Z5} {w:World} (h:St (p::H) R w):St H R w:=St.drop (G:=[p]) h
theorem St.ftail {f:World→Prop} {H:Z8} {R:Z5} {w:World} (h:St H (f::R) w):St H R w:=h.facts (fun g hg=>by simp [hg])
def RowsA (a:Option Addr) (sz:Nat) (rows:List (List Value)) (w:World):Prop :=
 ∀ i row,rows[i]?=some row→row.length=sz∧∃ b off,a=some ⟨b,off,none⟩∧∀ j x,row[j]?=some x→w.cell? ⟨b,off+i*sz+j,none⟩=some x
class MemF (f:World→Prop) (R:Z5):Prop where
 mem:f∈R
instance MemF.head (f:World→Prop) (R:Z5):MemF f (f::R):=⟨by simp⟩
instance (priority:=low) MemF.tail (f g:World→Prop) (R:Z5) [m:MemF f R]:MemF f (g::R):=⟨by simp [m.mem]⟩
instance (priority:=low) MemF.app (f:World→Prop) (G R:Z5) [m:MemF f R]:MemF f (G++R):=⟨by simp [m.mem]⟩
class MemRows (a:Option Addr) (sz:Nat) (rows:outParam (List (List Value))) (R:Z5):Prop where
 mem:RowsA a sz rows∈R
instance MemRows.head (a:Option Addr) (sz:Nat) (rows:List (List Value)) (R:Z5):MemRows a sz rows (RowsA a sz rows::R):=⟨by simp⟩
instance (priority:=low) MemRows.tail (a:Option Addr) (sz:Nat) (rows:List (List Value)) (g:World→Prop) (R:Z5) [m:MemRows a sz rows R]:MemRows a sz rows (g::R):=⟨by simp [m.mem]⟩
instance (priority:=low) MemRows.app (a:Option Addr) (sz:Nat) (rows:List (List Value)) (G R:Z5) [m:MemRows a sz rows R]:MemRows a sz rows (G++R):=⟨by simp [m.mem]⟩
section facts
variable {P:Program} {n:Nat} {L:Zm} {D:List Deferred} {H:Z8} {R:Z5} {X:Act→World→Prop}
theorem Zi {a:Option Addr} {sz:Nat} {rows:List (List Value)} [m:MemRows a sz rows R] (h0:rows≠[])
   (h:∀ b off,a=some ⟨b,off,none⟩→Sy n L D H R X):Sy n L D H R X:=fun q w ha hD hs=>by
 cases rows with
 | nil=>exact absurd rfl h0
 | cons row rest =>
   obtain ⟨_,b,off,he,_⟩:=hs.now m.mem 0 row rfl
   exact h b off he q w ha hD hs
theorem Z17 {b off sz i j:Nat} {rows:List (List Value)} {row:List Value} {x:Value} {w:World} (h:RowsA (some ⟨b,off,none⟩) sz rows w) (hr:rows[i]?=some row) (hx:row[j]?=some x) :
   w.cell? ⟨b,off+i*sz+j,none⟩=some x:=by
 obtain ⟨_,b',off',he,hc⟩:=h i row hr
 cases he
 exact hc j x hx
theorem lf {T b off sz i j:Nat} {rows:List (List Value)} [m:MemRows (some ⟨b,off,none⟩) sz rows R] {row:List Value} {x:Value} (hT:Z0h P T=true) (hr:rows[i]?=some row) (hx:row[j]?=some x) :
 ∀ w,St H R w→Ld P T ⟨b,off+i*sz+j,none⟩ x w:=fun w hs=>Z52 hT (Z17 (hs.now m.mem) hr hx)
theorem lf0 {T b off sz i:Nat} {rows:List (List Value)} [m:MemRows (some ⟨b,off,none⟩) sz rows R] {row:List Value} {x:Value} (hT:Z0h P T=true) (hr:rows[i]?=some row) (hx:row[0]?=some x) :
 ∀ w,St H R w→Ld P T ⟨b,off+i*sz,none⟩ x w:=fun w hs=>Z52 hT (Z17 (j:=0) (hs.now m.mem) hr hx)
theorem lfA {T b off sz i k:Nat} {rows:List (List Value)} [m:MemRows (some ⟨b,off,none⟩) sz rows R] {row:List Value} (hT:Z2a P T=some k) (hr:rows[i]?=some row) (hk:row.length=k) :
   ∀ w,St H R w→Ld P T ⟨b,off+i*sz,none⟩ (.agg row.toArray) w:=fun w hs=>by
 subst hk
 exact Z9A hT fun j x hj=>Z17 (hs.now m.mem) hr hj
theorem ZkS {T b off sz i j k:Nat} {rows:List (List Value)} [m:MemRows (some ⟨b,off,none⟩) sz rows R] {row:List Value} (vs:List Value) (hT:Z2a P T=some k) (hr:rows[i]?=some row) {rest:List Value} (hv:row.drop j=vs++rest) (hk:vs.length=k) :
   ∀ w,St H R w→Ld P T ⟨b,off+i*sz+j,none⟩ (.agg vs.toArray) w:=fun w hs=>by
 subst hk
 refine Z9A hT fun k x hj=>?_
 have hlt:k<vs.length:=(List.getElem?_eq_some_iff.1 hj).1
 have h1:(row.drop j)[k]?=some x:=by rw [hv,List.getElem?_append_left hlt];exact hj
 have:=Z17 (j:=j+k) (hs.now m.mem) hr (by simpa [List.getElem?_drop] using h1)
 rw [Nat.add_assoc];exact this
theorem Z3z {sz:Nat}:∀ {rows:List (List Value)},(∀ r∈rows,r.length=sz)→∀ {i j:Nat} {row:List Value} {x:Value},rows[i]?=some row→row[j]?=some x→rows.flatten[i*sz+j]?=some x
 | [],_,i,j,row,x,hr,_=>by simp at hr
 | r::rs,h,i,j,row,x,hr,hx=>by
   have hl:=h r (by simp)
   cases i with
   | zero =>
     simp only [List.getElem?_cons_zero,Option.some.injEq] at hr
     subst hr
     have hj:j<r.length:=(List.getElem?_eq_some_iff.1 hx).1
     rw [List.flatten_cons,Nat.zero_mul,Nat.zero_add,List.getElem?_append_left hj];exact hx
   | succ i =>
     simp only [List.getElem?_cons_succ] at hr
     have ih:=Z3z (fun q hq=>h q (by simp [hq])) hr hx
     rw [List.flatten_cons,Nat.succ_mul,List.getElem?_append_right (by omega)]
     rw [show i*sz+sz+j-r.length=i*sz+j from by omega];exact ih
theorem St.rows {b e sz:Nat} {rows:List (List Value)} {rest:List Value} {w:World} (h:St ((b,cel e (rows.flatten++rest))::H) R w) (hs:∀ r∈rows,r.length=sz):St H (RowsA (some ⟨b,0,none⟩) sz rows::R) w:=by
 have h1:=(St.freeze h).also (f:=RowsA (some ⟨b,0,none⟩) sz rows) (fun w' hw=>by
   have hb:=hw (fun w=>w.heap[b]?=some (cel e (rows.flatten++rest))) (by simp)
   intro i row hr
   refine ⟨hs row (List.mem_of_getElem? hr),b,0,rfl,fun j x hx=>?_⟩
   have h2:=Z3z hs hr hx
   rw [Z0H hb,Nat.zero_add]
   have hlt:i*sz+j<rows.flatten.length:=(List.getElem?_eq_some_iff.1 h2).1
   simp only [List.getElem?_toArray]
   rw [List.getElem?_append_left hlt];exact h2)
 exact h1.facts (fun g hg=>by rcases List.mem_cons.1 hg with h2 | h2<;>simp [h2])
end facts
abbrev Za (l:List Int):List Value:=l.map (Value.int .i64)
def mkv (b:Bool) (l:List Int):Value:=bif b then .agg (Za l).toArray else .int .i64 (l.headD 0)
def EQ (P:Program) (d:Nat) (b:Bool) (e s:Nat):Prop :=
 ((P.info? e).map (·.size)=some s∧∀ w,(isAgg e).run P w = .ok b w)∧∀ (xs ys:List Int),xs.length=s→ys.length=s→∀ w,(Op.equalIn d e (mkv b xs) (mkv b ys)).run P w = .ok (decide (xs=ys)) w
theorem ZhV {P:Program} {d e:Nat} {k:IntKind} (hu:P.underlying e=some (.int k)) (hi:(P.info? e).map (·.size)=some 1):EQ P (d+1) false e 1:=by
 refine ⟨⟨hi,fun w=>Z0s (by simp [Z0h,hu]) w⟩,fun xs ys hx hy w=>?_⟩
 obtain ⟨x,rfl⟩:∃ x,xs=[x]:=by match xs,hx with | [x],_=>exact ⟨x,rfl⟩
 obtain ⟨y,rfl⟩:∃ y,ys=[y]:=by match ys,hy with | [y],_=>exact ⟨y,rfl⟩
 show (Op.equalIn (d+1) e (.int .i64 x) (.int .i64 y)).run P w=_
 rw [run_equalIn_int w d e _ _ _ _ hu]
 congr 1
 by_cases h:x=y<;>simp [h]
theorem Z3D {P:Program} {e s:Nat} (h:(P.info? e).map (·.size)=some s) (w:World):(sizeOf e).run P w = .ok s w:=by
 rw [Option.map_eq_some_iff] at h
 obtain ⟨i,hi,rfl⟩:=h
 simp [sizeOf,typeInfo,program,hi,Sem.run_bind,Sem.run_pure,Sem.run,Result.andThen]
theorem Z1W {P:Program} {d:Nat} {b:Bool} {e s:Nat} (h:EQ P d b e s) (hs:b=false→s=1) (l:List Int) (off:Nat) (hl:off+s≤l.length) (w:World) :
   (part e (Za l).toArray off).run P w = .ok (mkv b ((l.drop off).take s)) w:=by
 unfold part
 simp only [Sem.run_bind,h.1.2,Result.andThen]
 cases b with
 | true =>
   simp only [if_true,Sem.run_bind,Z3D h.1.1,Result.andThen,Sem.run_pure,mkv,cond_true]
   congr 2
   apply Array.toList_inj.1
   rw [Array.toList_extract]
   simp [List.extract_eq_take_drop,List.map_drop,List.map_take,List.take_drop]
 | false =>
   obtain rfl:=hs rfl
   have hlt:off<l.length:=by omega
   have:(l.drop off).take 1=[l[off]]:=by
     rw [List.drop_eq_getElem_cons hlt];rfl
   simp [this,mkv,hlt,Sem.run_pure]
theorem Z6N {P:Program} {d:Nat} {b:Bool} {e s:Nat} (h:EQ P d b e s) (hs:b=false→s=1) (xs ys:List Int):∀ (is:List Nat),(∀ i∈is,i*s+s≤xs.length∧i*s+s≤ys.length)→∀ w,
   (Op.eqItems d e s (Za xs).toArray (Za ys).toArray is).run P w = .ok (decide (∀ i∈is,(xs.drop (i*s)).take s=(ys.drop (i*s)).take s)) w
 | [],_,w=>by simp [Op.eqItems,Sem.run_pure]
 | i::is,hi,w=>by
   obtain ⟨h1,h2⟩:=hi i (by simp)
   have p1:=Z1W h hs xs (i*s) h1 w
   have p2:=Z1W h hs ys (i*s) h2 w
   have p3:=h.2 ((xs.drop (i*s)).take s) ((ys.drop (i*s)).take s) (by simp;omega) (by simp;omega) w
   simp only [Op.eqItems,Sem.run_bind,p1,p2,p3,Result.andThen]
   by_cases hc:(xs.drop (i*s)).take s=(ys.drop (i*s)).take s
   · rw [run_ite_false (by simp [hc]),Z6N h hs xs ys is (fun j hj=>hi j (by simp [hj])) w]
     simp [hc]
   · rw [run_ite_true (by simp [hc])]
     simp [hc,Sem.run_pure]
where
 run_ite_false {P:Program} {w:World} {p:Prop} [Decidable p] {a c:Sem Bool} (h:¬ p):(if p then a else c).run P w=c.run P w:=by rw [if_neg h]
 run_ite_true {P:Program} {w:World} {p:Prop} [Decidable p] {a c:Sem Bool} (h:p):(if p then a else c).run P w=a.run P w:=by rw [if_pos h]
theorem Zag {s n:Nat}:∀ {xs ys:List Int},xs.length=n*s→ys.length=n*s→((∀ i∈List.range n,(xs.drop (i*s)).take s=(ys.drop (i*s)).take s)↔xs=ys):=by
 intro xs ys hx hy
 constructor
 · intro h
   apply List.ext_getElem (by omega)
   intro j h1 h2
   have hs:0<s:=by
     rcases Nat.eq_zero_or_pos s with h0 | h0
     · subst h0;simp at hx;subst hx;simp at h1
     · exact h0
   have hj:j / s<n:=by rw [Nat.div_lt_iff_lt_mul hs];omega
   have h3:=h (j / s) (List.mem_range.2 hj)
   have h4:=congrArg (fun l=>l[j%s]?) h3
   have hm:j%s<s:=Nat.mod_lt _ hs
   have e:j / s*s+j%s=j:=Nat.div_add_mod' j s
   simp only [List.getElem?_take,hm,if_true,List.getElem?_drop,e] at h4
   rw [List.getElem?_eq_getElem h1,List.getElem?_eq_getElem h2] at h4
   simpa using h4
 · rintro rfl i _;rfl
theorem ZhU {P:Program} {d:Nat} {b:Bool} {T e s n:Nat} (hu:P.underlying T=some (.array n e)) (hi:(P.info? T).map (·.size)=some (n*s)) (h:EQ P d b e s) (hs:b=false→s=1):EQ P (d+1) true T (n*s):=by
 obtain ⟨i,hie,hsz⟩:=Option.map_eq_some_iff.1 h.1.1
 refine ⟨⟨hi,fun w=>(Z1c (k:=n*s) (by simp [Z2a,hu,hi]) w).1⟩,fun xs ys hx hy w=>?_⟩
 have hc:P.cellsOf e=s:=by simp [Program.cellsOf,hie,hsz]
 show (Op.equalIn (d+1) T (.agg (Za xs).toArray) (.agg (Za ys).toArray)).run P w=_
 rw [run_equalIn_array (w:=w) d _ _ hu hie,hc,Z6N h hs xs ys (List.range n) (fun j hj=>by
   have hj:=List.mem_range.1 hj
   have:j*s+s≤n*s:=by rw [← Nat.succ_mul];exact Nat.mul_le_mul_right s hj
   omega) w]
 congr 1
 exact decide_eq_decide.2 (Zag hx hy)
inductive EQs (P:Program) (d:Nat):Nat→List Field→Nat→Prop where
 | nil (o:Nat):EQs P d o [] o
 | cons {o m : Nat} {f : Field} {fs : List Field} {b : Bool} {s : Nat} (hn : (f.name == "_") = false) (ho : f.offset = o) (h : EQ P d b f.type s) (hs : b = false → s = 1) (hr : EQs P d (o + s) fs m) : EQs P d o (f :: fs) m
theorem Z4U {P:Program} {d:Nat} {xs ys:List Int}:∀ {o m:Nat} {fs:List Field},EQs P d o fs m→m≤xs.length→m≤ys.length→∀ w,
   (Op.eqFields d (Za xs).toArray (Za ys).toArray fs).run P w = .ok (decide ((xs.drop o).take (m-o)=(ys.drop o).take (m-o))) w∧o≤m
 | o,_,[],.nil _,_,_,w=>by simp [Op.eqFields,Sem.run_pure]
 | o,m,f::fs,.cons (s:=s) hn ho h hs hr,hx,hy,w=>by
   obtain ⟨ih,hle⟩:=Z4U hr hx hy w
   subst ho
   have p1:=Z1W h hs xs f.offset (by omega) w
   have p2:=Z1W h hs ys f.offset (by omega) w
   have p3:=h.2 ((xs.drop f.offset).take s) ((ys.drop f.offset).take s) (by simp;omega) (by simp;omega) w
   have hn' : f.name ≠ "_" := by simpa using hn
   refine ⟨?_,by omega⟩
   have key:∀ l:List Int,(l.drop f.offset).take (m-f.offset)=(l.drop f.offset).take s++(l.drop (f.offset+s)).take (m-(f.offset+s)):=fun l=>by
     rw [show m-f.offset=s+(m-(f.offset+s)) from by omega,List.take_add,List.drop_drop]
   simp only [Op.eqFields,hn',ne_eq,not_false_eq_true,if_true,Sem.run_bind,p1,p2,p3,Result.andThen]
   by_cases hc:(xs.drop f.offset).take s=(ys.drop f.offset).take s
   · have e:((!decide ((xs.drop f.offset).take s=(ys.drop f.offset).take s))=true)=False:=by simp [hc]
     simp only [e,if_false,ih]
     congr 1
     rw [key xs,key ys,hc]
     simp
   · have e:((!decide ((xs.drop f.offset).take s=(ys.drop f.offset).take s))=true)=True:=by simp [hc]
     simp only [e,if_true,Sem.run_pure]
     congr 1
     rw [key xs,key ys]
     symm
     rw [decide_eq_false_iff_not]
     intro h2
     exact hc (List.append_inj_left h2 (by simp;omega))
theorem Zap {P:Program} {d T m:Nat} {fs:Array Field} (hu:P.underlying T=some (.struct fs)) (hp:P.stoodInHeld T=false) (hi:(P.info? T).map (·.size)=some m) (h:EQs P d 0 fs.toList m):EQ P (d+1) true T m:=by
 refine ⟨⟨hi,fun w=>(Z1c (k:=m) (by simp [Z2a,hu,hi]) w).1⟩,fun xs ys hx hy w=>?_⟩
 have hf:P.fieldsOf T=fs:=by simp [Program.fieldsOf,hu]
 show (Op.equalIn (d+1) T (.agg (Za xs).toArray) (.agg (Za ys).toArray)).run P w=_
 rw [run_equalIn_struct w d T _ _ (by rw [hu,hf]) hp,hf,(Z4U h (by omega) (by omega) w).1]
 simp [← hx,hy.trans hx.symm▸List.take_length (l:=ys)]
section pe
variable {P:Program} {L:Zm} {d:Option Tmp} {ty:TypeId} {pos:String} {af:Array Edge} {g:Option (Nat×Bool)}
theorem Z1G {op:BinOp} {T:Nat} {x y:Operand} {xs ys:Array Value} (hg:P.eqGuardType P.depth T=false) (w:World):(eqGuard op T x y (.agg xs) (.agg ys)).run P w = .ok () w:=by
 unfold eqGuard
 cases op<;>first | rfl | skip
 all_goals
   simp only [Bool.not_true,Bool.false_eq_true,if_false,Sem.run_bind,program,Sem.run,Result.andThen,hg,Bool.not_false,if_true,Sem.run_pure]
theorem PE.eqlAgg {T U s:Nat} {x y:Operand} (xs ys:List Int) (hE:EQ P 10000 true T s) (hg:P.eqGuardType P.depth T=false) (hx:ev L x=some (.agg (Za xs).toArray)) (hy:ev L y=some (.agg (Za ys).toArray)) (lx:xs.length=s) (ly:ys.length=s) :
   PE P L ⟨d,.binOp .eql T x y U,ty,pos,af,g⟩ (.bool (decide (xs=ys))):=fun ρ hρ w=>by
 have hb:binOp .eql T (.agg (Za xs).toArray) (.agg (Za ys).toArray)=(do pure (.bool (← Op.equal T (.agg (Za xs).toArray) (.agg (Za ys).toArray)))):=rfl
 have he:(Op.equal T (.agg (Za xs).toArray) (.agg (Za ys).toArray)).run P w = .ok (decide (xs=ys)) w:=hE.2 xs ys lx ly w
 simp only [execOp,hρ _ _ hx,hρ _ _ hy,Sem.run_bind,Z1G hg,hb,he,Result.andThen,Sem.run_pure]
theorem PE.neqAgg {T U s:Nat} {x y:Operand} (xs ys:List Int) (hE:EQ P 10000 true T s) (hg:P.eqGuardType P.depth T=false) (hx:ev L x=some (.agg (Za xs).toArray)) (hy:ev L y=some (.agg (Za ys).toArray)) (lx:xs.length=s) (ly:ys.length=s) :
   PE P L ⟨d,.binOp .neq T x y U,ty,pos,af,g⟩ (.bool (!decide (xs=ys))):=fun ρ hρ w=>by
 have hb:binOp .neq T (.agg (Za xs).toArray) (.agg (Za ys).toArray)=(do pure (.bool (!(← Op.equal T (.agg (Za xs).toArray) (.agg (Za ys).toArray))))):=rfl
 have he:(Op.equal T (.agg (Za xs).toArray) (.agg (Za ys).toArray)).run P w = .ok (decide (xs=ys)) w:=hE.2 xs ys lx ly w
 simp only [execOp,hρ _ _ hx,hρ _ _ hy,Sem.run_bind,Z1G hg,hb,he,Result.andThen,Sem.run_pure]
end pe
def CK (P:Program) (n:Nat) (b:Bool) (e s:Nat):Prop:=∀ (m:Bool) (xs:List Int),xs.length=s→∀ w,(Instr.checkKey m n e (mkv b xs)).run P w = .ok () w
theorem ZhF {P:Program} {n e:Nat} {k:IntKind} (hu:P.underlying e=some (.int k)):CK P (n+1) false e 1:=fun m xs _ w=>by
 show (Instr.checkKey m (n+1) e (.int .i64 _)).run P w=_
 unfold Instr.checkKey
 simp only [Sem.run_bind,run_underlying hu,Result.andThen]
 rfl
inductive CKs (P:Program) (d n:Nat):Nat→List Field→Nat→Prop where
 | nil (o:Nat):CKs P d n o [] o
 | cons {o m:Nat} {f:Field} {fs:List Field} {b:Bool} {s:Nat} (ho:f.offset=o) (h:EQ P d b f.type s) (hs:b=false→s=1) (hc:CK P n b f.type s) (hr:CKs P d n (o+s) fs m):CKs P d n o (f::fs) m
theorem Zbv {P:Program} {d n:Nat} {em:Bool} {xs:List Int}:∀ {o m:Nat} {fs:List Field},CKs P d n o fs m→m≤xs.length→∀ w,o≤m ∧
   (forIn fs PUnit.unit (fun f (_ : PUnit) => (if f.name ≠ "_" then (do Instr.checkKey em n f.type (← part f.type (Za xs).toArray f.offset); pure (ForInStep.yield PUnit.unit)) else pure (ForInStep.yield PUnit.unit) : Sem (ForInStep PUnit)))).run P w = .ok PUnit.unit w
 | o,_,[],.nil _,_,w=>⟨Nat.le_refl _,by simp [Sem.run_pure]⟩
 | o,m,f::fs,.cons (s:=s) ho h hs hc hr,hm,w=>by
   obtain ⟨hle,ih⟩:=Zbv (em:=em) hr hm w
   subst ho
   have p1:=Z1W h hs xs f.offset (by omega) w
   have p2:=hc em ((xs.drop f.offset).take s) (by simp;omega) w
   refine ⟨by omega,?_⟩
   rw [List.forIn_cons,Sem.run_bind]
   by_cases hn : f.name ≠ "_"
   · rw [if_pos hn]
     simp only [Sem.run_bind,p1,p2,Result.andThen,Sem.run_pure]
     exact ih
   · rw [if_neg hn]
     simp only [Sem.run_pure,Result.andThen]
     exact ih
theorem Zah {P:Program} {d n T m:Nat} {fs:Array Field} (hu:P.underlying T=some (.struct fs)) (h:CKs P d n 0 fs.toList m):CK P (n+1) true T m:=fun em xs hx w=>by
 show (Instr.checkKey em (n+1) T (.agg (Za xs).toArray)).run P w=_
 unfold Instr.checkKey
 simp only [Sem.run_bind,run_underlying hu,Result.andThen]
 rw [← Array.forIn_toList]
 have:=(Zbv (em:=em) (xs:=xs) h (by omega) w).2
 rw [this];rfl
theorem ZhE {P:Program} {d n:Nat} {b:Bool} {T e s m:Nat} (hu:P.underlying T=some (.array m e)) (hE:EQ P d b e s) (hs:b=false→s=1) (h:CK P n b e s):CK P (n+1) true T (m*s):=fun em xs hx w=>by
 show (Instr.checkKey em (n+1) T (.agg (Za xs).toArray)).run P w=_
 unfold Instr.checkKey
 simp only [Sem.run_bind,run_underlying hu,Result.andThen]
 rw [Std.Legacy.Range.forIn_eq_forIn_range']
 have key:∀ (is:List Nat),(∀ i∈is,i*s+s≤xs.length)→(forIn is PUnit.unit (fun i (_:PUnit)=>(do let z ← sizeOf e;let p ← part e (Za xs).toArray (i*z);Instr.checkKey em n e p;pure (ForInStep.yield PUnit.unit):Sem (ForInStep PUnit)))).run P w = .ok PUnit.unit w:=by
   intro is
   induction is with
   | nil=>intro _;simp [Sem.run_pure]
   | cons i is ih =>
     intro hi
     have h1:=hi i (by simp)
     rw [List.forIn_cons,Sem.run_bind]
     simp only [Sem.run_bind,Z3D hE.1.1,Z1W hE hs xs (i*s) h1 w,h em ((xs.drop (i*s)).take s) (by simp;omega) w,Result.andThen,Sem.run_pure]
     exact ih fun j hj=>hi j (by simp [hj])
 rw [key _ ?_]
 · rfl
 · intro i hi
   have hj:i<m:=by simpa using hi
   have:i*s+s≤m*s:=by rw [← Nat.succ_mul];exact Nat.mul_le_mul_right s hj
   omega
abbrev KV:=List (List Int×Value)
def Z1S (b:Bool):Nat→KV→List MapEntry
 | _,[]=>[]
 | i,(k,v)::l=>⟨mkv b k,v,i⟩::Z1S b (i+1) l
def Zz (b:Bool) (l:KV):Obj:=.map (Z1S b 0 l).toArray l.length
def KV.get (l:KV) (k:List Int):Option Value:=(l.find? fun e=>decide (e.1=k)).map (·.2)
def KV.put:KV→List Int→Value→KV
 | [],k,v=>[(k,v)]
 | (k',v')::l,k,v=>bif decide (k'=k) then (k,v)::l else (k',v')::KV.put l k v
structure KeyT (P:Program) (b:Bool) (T s:Nat):Prop where
 eq:EQ P 10000 b T s
 ck:CK P 10000 b T s
 one:b=false→s=1∧∃ k,P.underlying T=some (.int k)
 agg:b=true→(∃ fs,P.underlying T=some (.struct fs))∨∃ n e,P.underlying T=some (.array n e)
theorem Z5F {P:Program} {b:Bool} {T s:Nat} (h:KeyT P b T s) (k:List Int) (hk:k.length=s):∀ (l:KV) (i:Nat),(∀ e∈l,e.1.length=s)→∀ w,
   (Instr.findAsking T (mkv b k) (Z1S b i l) i).run P w = .ok ((l.findIdx? fun e=>decide (e.1=k)).map fun j=>(i+j,(l.getD j default).2)) w
 | [],i,_,w=>by simp [Z1S,Instr.findAsking,Sem.run_pure]
 | (k',v')::l,i,hl,w=>by
   have h1:(Op.equal T (mkv b k) (mkv b k')).run P w = .ok (decide (k=k')) w:=h.eq.2 k k' hk (hl (k',v') (by simp)) w
   simp only [Z1S,Instr.findAsking,Sem.run_bind,h1,Result.andThen]
   by_cases hc:k=k'
   · subst hc
     rw [if_pos (by simp)]
     simp [List.findIdx?_cons,Sem.run_pure]
   · rw [if_neg (by simp [hc]),Z5F h k hk l (i+1) (fun e he=>hl e (by simp [he])) w]
     have hc':¬ k'=k:=fun e=>hc e.symm
     simp only [List.findIdx?_cons,hc',decide_false,Bool.false_eq_true,if_false,Option.map_map]
     have e:(fun j:Nat=>(i+1+j,(l.getD j default).2))=(fun j:Nat=>(i+j,(((k',v')::l).getD j default).2)) ∘ fun i=>i+1:=by
       funext j;simp [Nat.add_assoc,Nat.add_comm 1 j]
     rw [e]
theorem Z43 (q:IntKind) (k:List Int):∀ (l:KV) (i:Nat),
   Instr.findNow (.int q) (mkv false k) (Z1S false i l) i=some ((l.findIdx? fun e=>decide (e.1.headD 0=k.headD 0)).map fun j=>(i+j,(l.getD j default).2))
 | [],i=>by simp [Z1S,Instr.findNow]
 | (k',v')::l,i=>by
   simp only [Z1S,Instr.findNow,Instr.sameNow,mkv,cond_false,if_true]
   rw [List.findIdx?_cons]
   dsimp only
   cases hb:(k.headD 0 == k'.headD 0) with
   | true =>
     have hc:k'.headD 0=k.headD 0:=((by simpa using hb:k.headD 0=k'.headD 0)).symm
     rw [hc];simp
   | false =>
     have hc:decide (k'.headD 0=k.headD 0)=false:=by
       rw [decide_eq_false_iff_not];intro h;rw [h] at hb;simp at hb
     have ih:=Z43 q k l (i+1)
     simp only [mkv,cond_false] at ih
     rw [hc,ih]
     simp only [Bool.false_eq_true,if_false,Option.map_map]
     have e:(fun j:Nat=>(i+1+j,(l.getD j default).2))=(fun j:Nat=>(i+j,(((k',v')::l).getD j default).2)) ∘ fun i=>i+1:=by
       funext j;simp [Nat.add_assoc,Nat.add_comm 1 j]
     rw [e]
theorem Z2h {P:Program} {b:Bool} {T s:Nat} (h:KeyT P b T s) (k:List Int) (hk:k.length=s) (l:KV) (hl:∀ e∈l,e.1.length=s) (w:World) :
   (Instr.findKey T (mkv b k) (Z1S b 0 l)).run P w = .ok ((l.findIdx? fun e=>decide (e.1=k)).map fun j=>(j,(l.getD j default).2)) w:=by
 unfold Instr.findKey
 cases b with
 | false =>
   obtain ⟨rfl,q,hu⟩:=h.one rfl
   simp only [Sem.run_bind,run_underlying hu,Result.andThen,Z43,Sem.run_pure,Nat.zero_add]
   have one:∀ e:List Int×Value,e.1.length=1→decide (e.1.headD 0=k.headD 0)=decide (e.1=k):=by
     intro e he
     obtain ⟨x,hx⟩:∃ x,e.1=[x]:=by match e.1,he with | [x],_=>exact ⟨x,rfl⟩
     obtain ⟨y,hy⟩:∃ y,k=[y]:=by match k,hk with | [y],_=>exact ⟨y,rfl⟩
     rw [hx,hy];simp
   have fc:∀ (l:KV),(∀ e∈l,e.1.length=1)→(l.findIdx? fun e=>decide (e.1.headD 0=k.headD 0))=l.findIdx? fun e=>decide (e.1=k):=by
     intro l hl
     induction l with
     | nil=>rfl
     | cons e l ih=>rw [List.findIdx?_cons,List.findIdx?_cons,ih (fun x hx=>hl x (by simp [hx])),one e (hl e (by simp))]
   rw [fc l hl]
 | true =>
   rcases h.agg rfl with ⟨fs,hu⟩ | ⟨n,e,hu⟩
   · have hnow:Instr.findNow (.struct fs) (mkv true k) (Z1S true 0 l) 0=none∨l=[]:=by
       cases l with
       | nil=>exact .inr rfl
       | cons e l=>obtain ⟨k',v'⟩:=e;exact .inl rfl
     simp only [Sem.run_bind,run_underlying hu,Result.andThen]
     rcases hnow with h1 | rfl
     · rw [h1]
       have:=Z5F h k hk l 0 hl w
       simpa using this
     · simp [Z1S,Instr.findNow,Sem.run_pure]
   · have hnow:Instr.findNow (.array n e) (mkv true k) (Z1S true 0 l) 0=none∨l=[]:=by
       cases l with
       | nil=>exact .inr rfl
       | cons e l=>obtain ⟨k',v'⟩:=e;exact .inl rfl
     simp only [Sem.run_bind,run_underlying hu,Result.andThen]
     rcases hnow with h1 | rfl
     · rw [h1]
       have:=Z5F h k hk l 0 hl w
       simpa using this
     · simp [Z1S,Instr.findNow,Sem.run_pure]
theorem Z5m (b:Bool):∀ (l:KV) (i j:Nat) (e:List Int×Value),l[j]?=some e→(Z1S b i l)[j]?=some ⟨mkv b e.1,e.2,i+j⟩
 | [],_,_,_,h=>by simp at h
 | (k,v)::l,i,j,e,h=>by
   cases j with
   | zero=>simp only [List.getElem?_cons_zero,Option.some.injEq] at h;subst h;simp [Z1S]
   | succ j =>
     have:=Z5m b l (i+1) j e (by simpa using h)
     simp only [Z1S,List.getElem?_cons_succ,this]
     congr 2;omega
theorem Z40 (b:Bool):∀ (l:KV) (i:Nat) (k:List Int) (v:Value),Z1S b i (l++[(k,v)])=Z1S b i l++[⟨mkv b k,v,i+l.length⟩]
 | [],i,k,v=>by simp [Z1S]
 | (k',v')::l,i,k,v=>by simp [Z1S,Z40 b l (i+1) k v];omega
theorem Z5C {k:List Int} {v:Value}:∀ {l:KV} {j:Nat},(l.findIdx? fun e=>decide (e.1=k))=some j→l.put k v=l.set j (k,v)∧j<l.length
 | [],j,h=>by simp at h
 | (k',v')::l,j,h=>by
   rw [List.findIdx?_cons] at h
   by_cases hc:k'=k
   · simp only [hc,decide_true,if_true,Option.some.injEq] at h
     subst h;simp [KV.put,hc]
   · simp only [hc,decide_false,Bool.false_eq_true,if_false] at h
     obtain ⟨j',hj,rfl⟩:=Option.map_eq_some_iff.1 h
     obtain ⟨h1,h2⟩:=Z5C (v:=v) hj
     simp [KV.put,hc,h1];omega
theorem Z3C {k:List Int} {v:Value}:∀ {l:KV},(l.findIdx? fun e=>decide (e.1=k))=none→l.put k v=l++[(k,v)]
 | [],_=>rfl
 | (k',v')::l,h=>by
   rw [List.findIdx?_cons] at h
   by_cases hc:k'=k
   · simp [hc] at h
   · simp only [hc,decide_false,Bool.false_eq_true,if_false,Option.map_eq_none_iff] at h
     simp [KV.put,hc,Z3C h]
theorem Z5n (b:Bool):∀ (l:KV) (i j:Nat) (k:List Int) (v:Value),Z1S b i (l.set j (k,v))=(Z1S b i l).modify j fun e=>{ e with key:=mkv b k,val:=v }
 | [],i,j,k,v=>by simp [Z1S]
 | (k',v')::l,i,j,k,v=>by
   cases j with
   | zero=>simp [Z1S]
   | succ j=>simp [Z1S,Z5n b l (i+1) j k v]
theorem Z5s {k:List Int} {l:KV}:(l.findIdx? fun e=>decide (e.1=k)).map (fun j=>(l.getD j default).2)=l.get k:=by
 unfold KV.get
 induction l with
 | nil=>rfl
 | cons e l ih =>
   rw [List.findIdx?_cons,List.find?_cons]
   by_cases hc:e.1=k
   · simp [hc]
   · simp only [hc,decide_false,Bool.false_eq_true,if_false,Option.map_map]
     rw [← ih]
     congr 1
theorem Z2M:∀ (l:List Int) (n:Nat),(((Za l).zip (Za l)).all fun (x,y)=>Instr.sameBits n x y)=true
 | [],_=>rfl
 | x::l,n=>by
   have:=Z2M l n
   simp only [Za,List.map_cons,List.zip_cons_cons,List.all_cons,Bool.and_eq_true]
   refine ⟨?_,this⟩
   cases n<;>simp [Instr.sameBits]
theorem Z6O {P:Program} (b:Bool) (k:List Int) (w:World):(Instr.keyThatStays (mkv b k) (mkv b k)).run P w = .ok (mkv b k) w:=by
 have h:Instr.sameBits 10000 (mkv b k) (mkv b k)=true:=by
   cases b with
   | false=>show Instr.sameBits (9999+1) (.int .i64 _) (.int .i64 _)=true;simp [Instr.sameBits]
   | true =>
     show Instr.sameBits (9999+1) (.agg (Za k).toArray) (.agg (Za k).toArray)=true
     simp only [Instr.sameBits]
     simpa using Z2M k 9999
 unfold Instr.keyThatStays
 rw [if_pos h];rfl
section mapops
variable {P:Program} {r:Option Nat} {ops:Array Oper} {n:Nat} {L:Zm} {D:List Deferred} {H:Z8} {R:Z5} {K:Act→World→Prop}
 {bm:List Nat} {X:Act→World→Prop} {p:Plan} {pend:Z3r} {i d:Nat} {ty:TypeId} {pos:String} {af:Array Edge}
theorem mkm {T:TypeId} (ho:ops[i]?=some ⟨some d,.makeMap T none,ty,pos,af,none⟩) (hd:Nat.blt d n=true) (b:Bool)
   (h:∀ m,Sy n ((d,.map (some m))::L) D ((m,Zz b [])::H) R K):Sy n L D H R (stp P r ops i K):=fun a w ha hD hs=>by
 refine Zp ho (Zh _ rfl _) (v:=.map (some w.heap.size)) (w':=w.alloc (Zz b [])) ?_ (h _ _ _ (ha.put (by simpa using hd) _) hD (hs.alloc _))
 simp only [execOp,Instr.makeMap,newObj,Sem.run_bind,Sem.run,Result.andThen,Sem.run_pure,Option.map_none]
 rfl
def Z0A (P:Program) (T:Nat):Option (Nat×Nat):=match P.underlying T with | some (.map k e)=>some (k,e) | _=>none
theorem Z39 {P:Program} {m:Nat} {b:Bool} {l:KV} {w:World} (h:w.heap[m]?=some (Zz b l)):(getObj m).run P w = .ok (Zz b l) w:=by
 simp [getObj,Sem.run,h,Zz]
theorem Z9f {P:Program} {m:Nat} {b:Bool} {l:KV} {o:Obj} {w:World} (h:w.heap[m]?=some (Zz b l)):(setObj m o).run P w = .ok () { w with heap:=w.heap.setIfInBounds m o }:=by
 simp [setObj,Sem.run,h,Zz]
theorem Z4W {P:Program} {T KT E s m:Nat} {b:Bool} {l:KV} {k:List Int} {v:Value} (hT:Z0A P T=some (KT,E)) (hK:KeyT P b KT s) (hk:k.length=s) (hl:∀ e∈l,e.1.length=s) {w:World} (h:w.heap[m]?=some (Zz b l)) :
   (Instr.mapUpdate T (.map (some m)) (mkv b k) v).run P w = .ok () { w with heap:=w.heap.setIfInBounds m (Zz b (l.put k v)) }:=by
 unfold Z0A at hT
 split at hT<;>cases hT
 rename_i hu
 have h1:=Z39 (P:=P) h
 have h2:=hK.ck false k hk w
 have h3:=Z2h hK k hk l hl w
 have h4:∀ o,(setObj m o).run P w = .ok () { w with heap:=w.heap.setIfInBounds m o }:=fun o=>Z9f h
 unfold Instr.mapUpdate
 simp only [Sem.run_bind,run_underlying hu,Result.andThen,h1,Zz,h2,h3]
 cases hf:l.findIdx? fun e=>decide (e.1=k) with
 | none =>
   simp only [Option.map_none,h4]
   rw [Z3C hf,Z40]
   simp
 | some j =>
   obtain ⟨h5,h6⟩:=Z5C (v:=v) hf
   have hjk:(l[j]).1=k:=by
     have:=(List.findIdx?_eq_some_iff_getElem.1 hf).2.1
     simpa using this
   have h7:((((Z1S b 0 l).toArray[j]?).map (·.key)).getD (mkv b k))=mkv b k:=by
     have:=Z5m b l 0 j l[j] (List.getElem?_eq_getElem h6)
     simp [this,hjk]
   simp only [Option.map_some,Sem.run_bind,h7,Z6O,Result.andThen,h4]
   rw [h5,Z5n]
   simp
theorem mpu {T KT E s m:Nat} {x y z:Operand} {b:Bool} (l:KV) (k:List Int) {v:Value} {H':Z8} (ho:ops[i]?=some ⟨none,.mapUpdate T x y z,ty,pos,af,none⟩)
   (hT:Z0A P T=some (KT,E)) (hK:KeyT P b KT s) (hx:ev L x=some (.map (some m))) (hy:ev L y=some (mkv b k)) (hz:ev L z=some v) (hk:k.length=s) (hl:∀ e∈l,e.1.length=s)
   [mm:Mem1 m (Zz b l) H] [rp:Rep [(m,Zz b l)] [(m,Zz b (l.put k v))] H H']
   (h:Sy n L D H' R K):Sy n L D H R (stp P r ops i K):=fun a w ha hD hs=>by
 have h1:=Z4W (P:=P) (v:=v) hT hK hk hl (hs.held _ mm.mem)
 refine Z2R ho (Zh _ rfl _) (w':={ w with heap:=w.heap.setIfInBounds m (Zz b (l.put k v)) }) ?_ ?_
 · simp only [execOp,ha.reads _ _ hx,ha.reads _ _ hy,ha.reads _ _ hz,Sem.run_bind,h1,Result.andThen,Sem.run_pure]
 · exact h _ _ (ha.putNone undef) hD (hs.rep (F:=[(m,Zz b l)]) (F':=[(m,Zz b (l.put k v))]) fun T hT=>St.set hT)
def Lkp (P:Program) (T:Nat) (x y:Value) (c:Bool) (v:Value) (w:World):Prop:=(Instr.lookup T x y c).run P w = .ok v w
theorem Z0L {T KT E s m:Nat} {b:Bool} (l:KV) (k:List Int) {zv:Value} (hT:Z0A P T=some (KT,E)) (hK:KeyT P b KT s) (hz:∀ w,(zeroValue E).run P w = .ok zv w) (hk:k.length=s) (hl:∀ e∈l,e.1.length=s)
   [mm:Mem1 m (Zz b l) H] (c:Bool):∀ w,St H R w→Lkp P T (.map (some m)) (mkv b k) c (bif c then .tuple #[(l.get k).getD zv,.bool (l.get k).isSome] else (l.get k).getD zv) w:=fun w hs=>by
 unfold Z0A at hT
 split at hT<;>cases hT
 rename_i hu
 have h1:=Z39 (P:=P) (hs.held _ mm.mem)
 have h3:=Z2h hK k hk l hl w
 unfold Lkp Instr.lookup
 simp only [Sem.run_bind,run_underlying hu,Result.andThen,h1,Zz,hK.ck _ k hk,h3,Sem.run_pure]
 rw [← Z5s]
 cases hf:l.findIdx? fun e=>decide (e.1=k) with
 | none=>simp only [Option.map_none,Sem.run_bind,hz,Result.andThen,Sem.run_pure];cases c<;>rfl
 | some j=>simp only [Option.map_some,Sem.run_pure];cases c<;>rfl
theorem Z0C {T:TypeId} {x y:Operand} {vx vy v:Value} {c:Bool} {g:Option (Nat×Bool)} {ρ:Operand→Value} (hρ:Z4A L ρ) (hx:ev L x=some vx) (hy:ev L y=some vy) {w:World} (h:Lkp P T vx vy c v w) :
   (execOp ρ ⟨some d,.lookup T x y c,ty,pos,af,g⟩).run P w = .ok (.value v) w:=by
 simp only [execOp,hρ _ _ hx,hρ _ _ hy,Sem.run_bind,show (Instr.lookup T vx vy c).run P w = .ok v w from h,Result.andThen,Sem.run_pure]
theorem spK {T:TypeId} {x y:Operand} {vx vy v:Value} {c:Bool} (ho:ops[i]?=some ⟨some d,.lookup T x y c,ty,pos,af,none⟩) (hx:ev L x=some vx) (hy:ev L y=some vy)
   (hl:∀ w,St H R w→Lkp P T vx vy c v w) (hd:Nat.blt d n=true) (h:Sy n ((d,v)::L) D H R K):Sy n L D H R (stp P r ops i K):=fun b w ha hD hs =>
 Zp ho (Zh _ rfl _) (Z0C ha.reads hx hy (hl w hs)) (h _ w (ha.put (by simpa using hd) v) hD hs)
theorem ldK {T:TypeId} {x y:Operand} {vx vy v:Value} {c:Bool} (ho:ops[i]?=some ⟨some d,.lookup T x y c,ty,pos,af,none⟩) (hx:ev L x=some vx) (hy:ev L y=some vy)
   (hl:∀ w,St H R w→Lkp P T vx vy c v w) (hd:Nat.blt d n=true) (h:Sy n ((d,v)::L) D H R (Dv P r ops bm X p ((i,Lkp P T vx vy c v)::pend))):Sy n L D H R (Dv P r ops bm X (.ld i p) pend):=fun b w ha hD hs =>
 ⟨_,v,Lkp P T vx vy c v,ho,.inl ⟨Zh _ rfl _,fun w hw=>Z0g (Z0C ha.reads hx hy hw) (by simp)⟩,hl w hs,h _ w (ha.put (by simpa using hd) v) hD hs⟩
end mapops
structure HeadD where
 L:Zm
 D:List Deferred
 H:Z8
 R:Z5
def Z3I {ι:Type} (n:Nat) (inv:ι→HeadD) (j:ι):Act→World→Prop:=fun a w=>Knows n (inv j).L a∧a.defers=(inv j).D∧St (inv j).H (inv j).R w
def Zdh {ι:Type} (n:Nat) (inv:ι→HeadD) (μ:ι→Nat) (i:ι):Act→World→Prop:=fun a w=>∃ j,μ j<μ i∧Z3I n inv j a w
section loopd
variable {n:Nat} {L:Zm} {D:List Deferred} {H:Z8} {R:Z5} {P:Program} {r:Option Nat} {Q:Exit→Act→World→Prop}
theorem Z1f {c:Code} {ι:Type} (inv:ι→HeadD) (μ:ι→Nat) (i₀:ι)
   (h₀:Sy n L D H R (Z3I n inv i₀))
   (round:∀ i,Sy n (inv i).L (inv i).D (inv i).H (inv i).R (wpc P r c (Exit.then (Zdh n inv μ i) Q))) :
   Sy n L D H R (wpc P r (.loop c) Q):=by
 have all:∀ m i a w,μ i=m→Z3I n inv i a w→(Code.loop c).wpIn (FF r) 0 P Q a w:=by
   intro m i a w hm hat b k cs hro hb hr
   have key:∀ m i a w,μ i=m→Z3I n inv i a w →
       ∃ e a' w',Q e a' w'∧ArrivesIn (Machine.fenced P (FF r)) P (lone (b.atR a (.code c::.inLoop c::k)) cs w) b k cs e a' w':=by
     intro m
     induction m using Nat.strongRecOn with
     | _ m ih =>
       intro i a w hm ⟨h1,h2,h3⟩
       obtain ⟨e,a₁,w₁,hq,harr⟩:=round i a w h1 h2 h3 b (.inLoop c::k) cs hro hb hr
       cases e with
       | normal =>
         obtain ⟨j,hlt,g⟩:=hq
         obtain ⟨e₂,a₂,w₂,hq₂,harr₂⟩:=ih (μ j) (hm▸hlt) j a₁ w₁ rfl g
         exact ⟨e₂,a₂,w₂,hq₂,.of_steps (StepsIn.trans harr (.one (fenced_calm hb hr rfl) stepR_inLoop)) harr₂⟩
       | exit id=>exact ⟨_,a₁,w₁,hq,.pass (x:=.inLoop c) rfl (fun _ _=>.inl (by simp)) harr⟩
       | goto l=>exact ⟨_,a₁,w₁,hq,.pass (x:=.inLoop c) rfl (fun _ _=>.inl (by simp)) harr⟩
       | ret=>exact ⟨_,a₁,w₁,hq,.pass (x:=.inLoop c) rfl (fun _ _=>.inl (by simp)) harr⟩
       | panic ch=>exact ⟨_,a₁,w₁,hq,.pass (x:=.inLoop c) rfl (fun _ _=>.inl (by simp)) harr⟩
       | outgrown=>exact ⟨_,a₁,w₁,hq,.pass (x:=.inLoop c) rfl (fun _ _=>.inl (by simp)) harr⟩
   obtain ⟨e,a',w',hq,harr⟩:=key m i a w hm hat
   exact ⟨e,a',w',hq,.of_steps (.one (fenced_calm hb hr rfl) stepR_loop) harr⟩
 exact fun a w ha hd hs=>all _ i₀ a w rfl (h₀ a w ha hd hs)
theorem Z4t {ι:Type} {inv:ι→HeadD} {j:ι} (hL:Sub (inv j).L L) (hD:(inv j).D=D) (hH:∀ w,St H R w→St (inv j).H (inv j).R w):Sy n L D H R (Z3I n inv j):=fun _ w ha hd' hs=>⟨ha.sub hL.lk,hd'.trans hD.symm,hH w hs⟩
theorem Z1Z {ι:Type} {inv:ι→HeadD} {μ:ι→Nat} {i:ι} (j:ι) (hm:μ j<μ i) (hL:Sub (inv j).L L) (hD:(inv j).D=D) (hH:∀ w,St H R w→St (inv j).H (inv j).R w) :
 Sy n L D H R (Zdh n inv μ i):=fun _ w ha hd' hs=>⟨j,hm,ha.sub hL.lk,hd'.trans hD.symm,hH w hs⟩
end loopd
def mk1 (b:Nat):Deferred:={ target:=.collected b,args := #[] }
def mks (ms:List Nat):List Deferred:=ms.map mk1
def mkh (ms:List Nat):Z8:=ms.map fun b=>(b,Obj.deferred (some []))
def Zks (P:Program) (fn:Func) (Q:Value→Z8→Z5→Prop):Exit→Act→World→Prop :=
 bodyPostM (FF none) 0 P fn (fun e w'=>∃ v H' R',Q v H' R'∧e = .returned v∧St H' R' w')
theorem Z4O {P:Program} {f:FuncId} {fn:Func} {c:Code} {args:List Value} {H:Z8} {R:Z5} {Q:Value→Z8→Z5→Prop} {n:Nat}
   (hf:P.funcs[f]?=some fn) (hb:fn.body=some c) (hn:fn.ntmps=n) (hl:Nat.ble args.length n=true)
   (h:Sy n (en 0 args) [] H R (wpc P none c (Zks P fn Q))):Fn P f args H R Q:=fun w hs=>by
 have hl':args.length≤n:=Nat.le_of_ble_eq_true hl
 refine callsIn_of_wp_marks hf hb (Z2m _ _) (h _ w ⟨?_,fun t v ht=>?_⟩ rfl hs) rfl
 · simp [hn];omega
 · obtain ⟨_,h2⟩:=Zfr _ _ _ _ ht
   have hlt:t<args.length:=by
     rw [Nat.sub_zero] at h2
     exact (List.getElem?_eq_some_iff.1 h2).1
   simpa [Array.getElem?_append,hlt] using h2
theorem Z3m {P:Program} {fn:Func} {H:Z8} {R:Z5} {tmps:Array Value} {C:Ending→World→Prop}
   (h:∀ w,St H R w→∃ v,(results fn tmps).run P w = .ok v w∧C (.returned v) w) :
   ∀ (ms:List Nat) (w:World),St (mkh ms++H) R w→LeavesInM (FF none) 0 P fn tmps C (mks ms) .returning w
 | [],w,hs=>h w hs
 | b::ms,w,hs=>by
   refine ⟨by simp,.inl ⟨b,w.putObj b (.deferred none),rfl,?_,?_⟩⟩
   · exact run_takeDeferred (hs.held (b,.deferred (some [])) (by simp [mkh]))
   · exact Z3m h ms _ (St.tail (St.set (o':=.deferred none) (show St ((b,Obj.deferred (some []))::(mkh ms++H)) R w from hs)))
section ends
variable {P:Program} {fn:Func} {n:Nat} {L:Zm} {H:Z8} {R:Z5} {Q:Value→Z8→Z5→Prop}
theorem ZO (ms:List Nat) {H0:Z8} {R0:Z5} {xs:List ResultVar} {vs:List Value} {v:Value} (hm:∀ w,St H0 R0 w→St (mkh ms++H) R w) (hr:fn.results=xs.toArray) (h:RVs P n L H R xs vs) (hv:ZR vs=v) {H':Z8} {R':Z5}
   (hq:Q v H' R') (hs:∀ w,St H R w→St H' R' w):Sy n L (mks ms) H0 R0 (Zks P fn Q .ret):=fun a w ha hD hs0=>by
 show LeavesInM _ _ _ _ _ _ a.defers _ _
 rw [hD]
 exact Z3m (fun w hs1=>⟨v,hv▸Z2j hr h ha hs1,v,H',R',hq,rfl,hs w hs1⟩) ms w (hm w hs0)
end ends
def yv (l:Nat):Value:=.func (.yield l) #[] #[]
def Yd (P:Program) (l:Nat) (args:List Value) (H:Z8) (R:Z5) (Q:Value→Z8→Z5→Prop):Prop :=
 ∀ w, St H R w → ∃ f tm asg bo, (Instr.yield l args.toArray).run P w = .ok (.round l f tm asg bo) w ∧
   RoundIn (FF none) 0 P l f tm asg bo w (fun e w'=>∃ v H' R',Q v H' R'∧e = .returned v∧St H' R' w')
section call
variable {P:Program} {ops:Array Oper} {n:Nat} {L:Zm} {D:List Deferred} {H:Z8} {R:Z5} {K:Act→World→Prop}
 {i d:Nat} {ty:TypeId} {pos:String} {af:Array Edge}
theorem Z3q {l:Nat} {c:Operand} {xs:List Operand} {vs:List Value} {ts:Array TypeId} {dd:Option Nat} {g:Option (Nat×Bool)} {ρ:Operand→Value} (hρ:Z4A L ρ)
   (hc:ev L c=some (yv l)) (hx:evs L xs=some vs) {w w':World} {x:Next} (h:(Instr.yield l vs.toArray).run P w = .ok x w') :
   (execOp ρ ⟨dd,.call { callee:=.value c,args:=xs.toArray,argTypes:=ts },ty,pos,af,g⟩).run P w = .ok x w':=by
 have e:xs.toArray.map ρ=vs.toArray:=by rw [List.map_toArray,Z31 hρ _ _ hx]
 simp only [execOp,resolve,hρ _ _ hc,yv,Deferred.ofValue,e,Sem.run_bind,Sem.run_pure,Result.andThen,invoke]
 simpa using h
theorem clY {l:Nat} {c:Operand} {xs:List Operand} {vs:List Value} {ts:Array TypeId} {Q:Value→Z8→Z5→Prop}
   (ho:ops[i]?=some ⟨some d,.call { callee:=.value c,args:=xs.toArray,argTypes:=ts },ty,pos,af,none⟩) (hcv:ev L c=some (yv l)) (hd:Nat.blt d n=true) (hx:evs L xs=some vs)
   (hc:Yd P l vs H R Q) (h:∀ v H' R',Q v H' R'→Sy n ((d,v)::L) D H' R' K):Sy n L D H R (stp P none ops i K):=fun a w ha hD hs=>by
 obtain ⟨f,tm,asg,bo,h1,h2⟩:=hc w hs
 have hw:=Zh ⟨some d,.call { callee:=.value c,args:=xs.toArray,argTypes:=ts },ty,pos,af,none⟩ rfl (yielded ops a.tmps)
 unfold stp
 rw [ho]
 simp only [hw,if_true,Oper.wpIn,Z1P,Z0g (Z3q ha.reads hcv hx h1) (by simp),Oper.uponIn]
 refine ⟨fun _ _=>Z2m _ _,by simp [Z2l],RoundIn.mono h2 fun e w' he=>?_⟩
 obtain ⟨v,H',R',q,rfl,hs'⟩:=he
 exact h v H' R' q _ _ (ha.put (by simpa using hd) v) hD hs'
end call
structure LR where
 fn:FuncId
 tmps:Array Value
 params:Array Tmp
 assign:Code
 body:Code
 defers:Nat
def lob (c:LR) (st:LoopState) (pend:Option Code):Obj:=.loop { state:=st,pending:=pend,fn:=c.fn,tmps:=c.tmps,params:=c.params,assign:=c.assign,body:=c.body,defers:=c.defers }
def Z8t (P:Program) (r:Option Nat) (Q:Exit→Act→World→Prop):Option Code→Act→World→Prop
 | none=>Q .normal
 | some c=>wpc P r c Q
theorem Z6U {P:Program} {r:Option Nat} {Q:Exit→Act→World→Prop} {n:Nat} {L:Zm} {D:List Deferred} {H:Z8} {R:Z5} (h:Sy n L D H R (Q .normal)):Sy n L D H R (Z8t P r Q none):=h
theorem Ziz {P:Program} {r:Option Nat} {Q:Exit→Act→World→Prop} {c:Code} {n:Nat} {L:Zm} {D:List Deferred} {H:Z8} {R:Z5} (h:Sy n L D H R (wpc P r c Q)):Sy n L D H R (Z8t P r Q (some c)):=h
section stmt
variable {P:Program} {n:Nat} {L:Zm} {D:List Deferred} {H:Z8} {R:Z5} {Q:Exit→Act→World→Prop}
theorem Z1g {g:Operand} {ps:Array Tmp} {assign body:Code} {f:FuncId} {first cap:List Value} (hg:ev L g=some (.func (.func f) first.toArray cap.toArray)) (hf:cal P f=true)
   (h:∀ (c:LR) (bl bd:Nat),c.params=ps→c.assign=assign→c.body=body→Knows n L ⟨c.tmps,[]⟩ →
     ∃ A : LoopState → Option Code → Z8 → Z5 → Prop,
       Fn P f (first++[yv bl]++cap) ((bl,lob c .ready none)::(bd,.deferred (some []))::H) R (fun _ H' R'=>∃ st pend T,st ≠ .busy∧H'.Perm ((bl,lob c st pend)::T)∧A st pend T R') ∧
       ∀ st pend T R',A st pend T R'→Sy n L (mk1 bd::D) T R' (Z8t P none Q pend)) :
   Sy n L D H R (wpc P none (.rangeFunc g ps assign body) Q):=fun a w ha hD hs=>by
 refine wpIn_rangeFunc fun fn _=>?_
 let c:LR:=⟨fn,a.tmps,ps,assign,body,w.heap.size⟩
 obtain ⟨A,h1,h2⟩:=h c (w.heap.size+1) w.heap.size rfl rfl rfl ⟨ha.size,ha.at_⟩
 have hs2:=(hs.alloc (.deferred (some []))).alloc (lob c .ready none)
 rw [show (w.alloc (Obj.deferred (some []))).heap.size=w.heap.size+1 from World.size_alloc _ _] at hs2
 refine ⟨w.heap.size+1,_,_,⟨.fn (.func f) cap.toArray,first.toArray ++ #[yv (w.heap.size+1)]⟩,(w.alloc (.deferred (some []))).alloc (lob c .ready none),f,(first++[yv (w.heap.size+1)]++cap).toArray,(w.alloc (.deferred (some []))).alloc (lob c .ready none),run_enterLoop_outer _ _ _ _ _,?_,fun _ _=>Z2m _ _,?_,by simp [Z2l],CallsIn.mono (h1 _ hs2) ?_⟩
 · simp only [resolve,rangeCall,ha.reads _ _ hg,Deferred.ofValue,Sem.run_pure,List.map_toArray,List.map_cons,List.map_nil]
   rfl
 · simp only [invoke]
   rw [Z1F hf]
   simp
 · rintro e w₃ ⟨v,H',R',⟨st,pend,T,hst,hp,hA⟩,rfl,hs3⟩
   have hs4:=hs3.perm hp
   have hl:=hs4.held (w.heap.size+1,lob c st pend) (by simp)
   refine ⟨pend,_,run_endLoop hl (by simpa using hst),?_⟩
   have hs5:=(St.set (o':=lob c .exhausted pend) hs4).tail
   have h3:=h2 st pend T R' hA ⟨a.tmps,mk1 w.heap.size::a.defers⟩ _ ⟨ha.size,ha.at_⟩ (by rw [hD]) hs5
   cases pend with
   | none=>exact h3
   | some j=>exact h3
def RP (P:Program) (bl:Nat) (Q:Value→Z8→Z5→Prop):Exit→Act→World→Prop :=
 roundPost P bl (fun e w'=>∃ v H' R',Q v H' R'∧e = .returned v∧St H' R' w')
def RB (P:Program) (bl:Nat) (body:Code) (Q:Value→Z8→Z5→Prop):Exit→Act→World→Prop :=
 Exit.then (fun a₁ w₁=>∃ w₂,(Instr.beginRound bl).run P w₁ = .ok () w₂∧body.wpIn (FF (some bl)) 0 P (RP P bl Q) a₁ w₂) (fun _ _ _=>False)
theorem Z7Q {c:LR} {bl:Nat} {p:Tmp} {assign body:Code} {v:Value} {QY:Value→Z8→Z5→Prop} [m:Mem1 bl (lob c .ready none) H] (hp:c.params = #[p]) (ha:c.assign=assign) (hb:c.body=body)
   (hk:Knows n L ⟨c.tmps,[]⟩) (hpn:Nat.blt p n=true) (h:Sy n ((p,v)::L) [] H R (wpc P (some bl) assign (RB P bl body QY))):Yd P bl [v] H R QY:=fun w hs=>by
 subst ha hb
 have hl:=hs.held _ m.mem
 refine ⟨c.fn,_,c.assign,c.body,run_yield (r:={ state:=.ready,pending:=none,fn:=c.fn,tmps:=c.tmps,params:=c.params,assign:=c.assign,body:=c.body,defers:=c.defers }) hl (by simp [hp]),?_⟩
 refine roundIn_of_wpIn (Z2m _ _) ?_
 have h1:=h ⟨c.tmps.setIfInBounds p v,[]⟩ w (by simpa [Act.put] using hk.put (d:=p) (by simpa using hpn) v) rfl hs
 have e:(c.params.zip #[v]).foldl (fun tmps (x:Tmp×Value)=>tmps.setIfInBounds x.1 x.2) c.tmps=c.tmps.setIfInBounds p v:=by simp [hp]
 dsimp only
 rw [e]
 exact h1
theorem ZK {c:LR} {bl:Nat} {body:Code} {H':Z8} {QY:Value→Z8→Z5→Prop} [m:Mem1 bl (lob c .ready none) H] [rp:Rep [(bl,lob c .ready none)] [(bl,lob c .busy none)] H H']
   (h:Sy n L D H' R (wpc P (some bl) body (RP P bl QY))):Sy n L D H R (RB P bl body QY .normal):=fun a w ha hD hs =>
 ⟨_,run_beginRound (hs.held _ m.mem) rfl,h a _ ha hD (hs.rep (F:=[(bl,lob c .ready none)]) (F':=[(bl,lob c .busy none)]) fun _ hT=>St.set hT)⟩
theorem Zn {c:LR} {bl:Nat} {pd:Option Code} {st:LoopState} {H':Z8} {QY:Value→Z8→Z5→Prop} [m:Mem1 bl (lob c st pd) H] [rp:Rep [(bl,lob c st pd)] [(bl,lob c .ready none)] H H']
   {H2:Z8} {R2:Z5} (h:QY (.bool true) H2 R2) (hs2:∀ w,St H' R w→St H2 R2 w):Sy n L D H R (RP P bl QY .normal):=fun a w ha hD hs =>
 ⟨_,_,run_endRound none (hs.held _ m.mem),_,H2,R2,h,rfl,hs2 _ (hs.rep (F:=[(bl,lob c st pd)]) (F':=[(bl,lob c .ready none)]) fun _ hT=>St.set hT)⟩
theorem Z7K {c:LR} {bl:Nat} {pd:Option Code} {st:LoopState} {H':Z8} {QY:Value→Z8→Z5→Prop} [m:Mem1 bl (lob c st pd) H] [rp:Rep [(bl,lob c st pd)] [(bl,lob c .done (some .ret))] H H']
   {H2:Z8} {R2:Z5} (h:QY (.bool false) H2 R2) (hs2:∀ w,St H' R w→St H2 R2 w):Sy n L D H R (RP P bl QY .ret):=fun a w ha hD hs =>
 ⟨_,_,run_endRound (some .ret) (hs.held _ m.mem),_,H2,R2,h,rfl,hs2 _ (hs.rep (F:=[(bl,lob c st pd)]) (F':=[(bl,lob c .done (some .ret))]) fun _ hT=>St.set hT)⟩
theorem Z6V {c:LR} {bl id:Nat} {pd:Option Code} {st:LoopState} {H':Z8} {QY:Value→Z8→Z5→Prop} [m:Mem1 bl (lob c st pd) H] [rp:Rep [(bl,lob c st pd)] [(bl,lob c .done (some (.exit id)))] H H']
   {H2:Z8} {R2:Z5} (h:QY (.bool false) H2 R2) (hs2:∀ w,St H' R w→St H2 R2 w):Sy n L D H R (RP P bl QY (.exit id)):=fun a w ha hD hs =>
 ⟨_,_,run_endRound (some (.exit id)) (hs.held _ m.mem),_,H2,R2,h,rfl,hs2 _ (hs.rep (F:=[(bl,lob c st pd)]) (F':=[(bl,lob c .done (some (.exit id)))]) fun _ hT=>St.set hT)⟩
end stmt
section small
variable {P:Program} {n:Nat} {L:Zm} {D:List Deferred} {H:Z8} {R:Z5}
theorem lfB {T b sz j:Nat} {row:List Value} [m:MemRows (some ⟨b,0,none⟩) sz [row] R] {x:Value} (hT:Z0h P T=true) (hx:row[j]?=some x) :
   ∀ w,St H R w→Ld P T ⟨b,j,none⟩ x w:=fun w hs=>by
 have:=Z17 (i:=0) (hs.now m.mem) rfl hx
 exact Z52 hT (by simpa using this)
theorem ZaS {T b sz j k:Nat} {row:List Value} [m:MemRows (some ⟨b,0,none⟩) sz [row] R] (vs:List Value) (hT:Z2a P T=some k) {rest:List Value} (hv:row.drop j=vs++rest) (hk:vs.length=k) :
   ∀ w,St H R w→Ld P T ⟨b,j,none⟩ (.agg vs.toArray) w:=by
 have:=ZkS (P:=P) (sz:=sz) (H:=H) (T:=T) (b:=b) (off:=0) (i:=0) (j:=j) (R:=R) vs hT (rows:=[row]) rfl hv hk
 simpa using this
variable {r:Option Nat} {ops:Array Oper} {K:Act→World→Prop} {i:Nat} {ty:TypeId} {pos:String} {af:Array Edge}
theorem ZH {T:TypeId} {x y:Operand} {b off k:Nat} {v:Value} {o:Obj} [m:Mem1 b o H] {e:TypeId} {l l':List Value} {H':Z8} (ho:ops[i]?=some ⟨none,.store T x y,ty,pos,af,none⟩)
   (hx:ev L x=some (.pointer (some ⟨b,off,none⟩))) (hy:ev L y=some v) (hT:ZF P T=some k) (hc:o=cel e l) (hk:v.cells.toList.length=k) (h1:v.cells.toList.all (·.oneCell')=true)
   (hl:spl l off v.cells.toList=l') (hb:off+v.cells.toList.length≤l.length) [rp:Rep [(b,o)] [(b,cel e l')] H H']
   (h:Sy n L D H' R K):Sy n L D H R (stp P r ops i K):=fun a w ha hD hs=>by
 subst hc
 subst hl
 refine Z2R ho (Zh _ rfl _) (Z3p ha.reads hx hy (Z3o hT hk h1 (by simpa using hb) (hs.held _ m.mem))) ?_
 exact h _ _ (ha.putNone undef) hD (hs.rep (F:=[(b,cel e l)]) (F':=[(b,cel e (spl l off v.cells.toList))]) fun T hT=>St.set hT)
end small
structure OSl (e sz:Nat) (rows:List (List Value)) where
 fs:Value
 G:Z8
 len:∀ r∈rows,r.length=sz
 is:(rows=[]∧fs = .slice none 0 0∧G=[]) ∨
   ∃ b cap junk,fs = .slice (some ⟨b,0,none⟩) rows.length cap∧G=[(b,cel e (rows.flatten++junk))]∧rows.length*sz+junk.length=cap*sz∧rows.length≤cap∧cap≤9223372036854775807
def OSl.nil (e sz:Nat):OSl e sz []:=⟨.slice none 0 0,[],by simp,.inl ⟨rfl,rfl,rfl⟩⟩
def OSl.here {e sz:Nat} {rows:List (List Value)} (o:OSl e sz rows):Prop:=∃ b c,o.fs = .slice (some ⟨b,0,none⟩) rows.length c
@[simp] theorem OSl.nil_fs (e sz : Nat) : (OSl.nil e sz).fs = .slice none 0 0 := rfl
@[simp] theorem OSl.nil_G (e sz : Nat) : (OSl.nil e sz).G = [] := rfl
theorem Z0q {sz:Nat}:∀ {rows:List (List Value)},(∀ r∈rows,r.length=sz)→rows.flatten.length=rows.length*sz
 | [],_=>by simp
 | r::rs,h=>by
   have h1:=h r (by simp)
   have h2:=Z0q (rows:=rs) (fun q hq=>h q (by simp [hq]))
   simp only [List.flatten_cons,List.length_append,h1,h2,List.length_cons,Nat.succ_mul];omega
def apT (P:Program) (T:Nat):Option (Nat×Nat×Nat):=match P.underlying T with
 | some (.slice e)=>match P.info? e with
   | some i=>match i.zero with
     | some z=>bif Nat.beq z.cells.size i.size then some (e,i.size,i.bytes) else none
     | none=>none
   | none=>none
 | _=>none
theorem Z2L {b off sz:Nat}:∀ {rows:List (List Value)} {w:World},RowsA (some ⟨b,off,none⟩) sz rows w→∀ j v,rows.flatten[j]?=some v→w.cell? ⟨b,off+j,none⟩=some v
 | [],_,_,j,v,h=>by simp at h
 | r::rs,w,hr,j,v,h=>by
   obtain ⟨hl,_,_,_,hc⟩:=hr 0 r rfl
   rw [List.flatten_cons] at h
   by_cases hj:j<r.length
   · rw [List.getElem?_append_left hj] at h
     have:=Z17 (i:=0) hr rfl h
     simpa using this
   · rw [List.getElem?_append_right (by omega)] at h
     have h2:RowsA (some ⟨b,off+sz,none⟩) sz rs w:=fun i row hi=>by
       obtain ⟨h3,b',off',he,h4⟩:=hr (i+1) row (by simpa using hi)
       cases he
       exact ⟨h3,b,off+sz,rfl,fun k x hk=>by
         have:=h4 k x hk
         rw [Nat.succ_mul] at this
         rw [show off+sz+i*sz+k=off+(i*sz+sz)+k from by omega]
         exact this⟩
     have:=Z2L h2 (j-r.length) v h
     rw [show off+j=off+sz+(j-r.length) from by omega]
     exact this
theorem Z2K {a:Option Addr} {sz:Nat} {rows:List (List Value)} {w:World} (h:RowsA a sz rows w) (h0:rows≠[]):∃ b off,a=some ⟨b,off,none⟩:=by
 cases rows with
 | nil=>exact absurd rfl h0
 | cons r rs=>obtain ⟨_,b,off,he,_⟩:=h 0 r rfl;exact ⟨b,off,he⟩
theorem Z5D {a:Option Addr} {sz:Nat} {rows:List (List Value)} {w:World} (h:RowsA a sz rows w):∀ r∈rows,r.length=sz:=fun r hr=>by
 obtain ⟨i,hi⟩:=List.getElem?_of_mem hr
 exact (h i r hi).1
def Z05 (rows:List (List Value)):Bool:=rows.all fun r=>r.all (·.oneCell')
theorem Z5A {rows:List (List Value)} (h:Z05 rows=true):∀ u∈rows.flatten,u.oneCell'=true:=fun u hu=>by
 obtain ⟨r,hr,hu⟩:=List.mem_flatten.1 hu
 exact List.all_eq_true.1 (List.all_eq_true.1 h r hr) u hu
theorem Z1n {P:Program} {t ty e:TypeId} {i:TypeInfo} (ht:P.underlying t=some (.slice e)) (hi:P.info? e=some i) {w:World} {ba:Option Addr} {ls cs c:Nat} (hls:ls≤cs) (ax:Option Addr) :
   (Builtin.append_ #[t,t] ty #[.slice ba ls cs,.slice ax 0 c]).run P w = .ok (.slice ba ls cs) w:=by
 cases ax<;>cases ba <;>
 simp [Builtin.append_,run_underlying ht,sizeOf,typeInfo,hi,Builtin.lenOf,hls,Builtin.firstCells,loadCells,loadCellsFrom,storeCells]
theorem Z4m {P:Program} {t ty e sz by_:Nat} (ht:apT P t=some (e,sz,by_)) {rows news:List (List Value)} (o:OSl e sz rows) {T:Z8} {R:Z5} {w:World} (hs:St (o.G++T) R w)
   {ax:Option Addr} {c:Nat} (hr:RowsA ax sz news w) (h1:Z05 news=true) (hby:(rows.length+news.length)*by_≤140737488355328) (h63:rows.length+news.length≤9223372036854775807) :
   ∃ (o':OSl e sz (rows++news)) (w':World),((Builtin.append_ #[t,t] ty #[o.fs,.slice ax news.length c]).run P w = .ok o'.fs w'∧(o.here→o'.here))∧St (o'.G++T) R w':=by
 unfold apT at ht
 split at ht
 case h_2=>cases ht
 rename_i e' hu
 split at ht
 case h_2=>cases ht
 rename_i i hi
 split at ht
 case h_2=>cases ht
 rename_i z hz
 cases hzs:Nat.beq z.cells.size i.size with
 | false=>rw [hzs] at ht;cases ht
 | true =>
 rw [hzs,cond_true] at ht
 cases ht
 have hzs:=Nat.eq_of_beq_eq_true hzs
 have hnl:=Z5D hr
 have hlen':∀ r∈rows++news,r.length=i.size:=fun r h=>by rcases List.mem_append.1 h with h | h;exact o.len r h;exact hnl r h
 have hnf:=Z0q hnl
 have hrf:=Z0q o.len
 by_cases h0:news=[]
 · subst h0
   have hap:rows++[]=rows:=by simp
   obtain ⟨fs,G,hl,his⟩:=o
   rcases his with ⟨rfl,rfl,rfl⟩ | ⟨b,cap,junk,rfl,rfl,hj,hc,hm⟩
   · exact ⟨OSl.nil _ _,w,⟨by simpa using Z1n hu hi (Nat.le_refl 0) ax,fun h=>h⟩,hs⟩
   · refine ⟨⟨.slice (some ⟨b,0,none⟩) rows.length cap,[(b,cel e (rows.flatten++junk))],by simpa using hl,.inr ⟨b,cap,junk,by simp,by simp,by simpa using hj,by simpa using hc,hm⟩⟩,w,⟨by simpa using Z1n hu hi hc ax,fun _=>⟨b,cap,by simp⟩⟩,hs⟩
 obtain ⟨bx,offx,rfl⟩:=Z2K hr h0
 have hcell:∀ j v,news.flatten[j]?=some v→w.cell? ((⟨bx,offx,none⟩:Addr).add j)=some v:=fun j v h=>by rw [ZB];exact Z2L hr j v h
 have hn0:0<news.length:=List.length_pos_iff.2 h0
 -- a new block
 have new:∀ (old:Nat) (w1:World),St T R w1→old<rows.length+news.length→w1.heap.size=w.heap.size →
     ∃ (o' : OSl e i.size (rows ++ news)), o'.fs = .slice (some ⟨w.heap.size, 0, none⟩) (rows.length + news.length) (grownCap w (rows.length + news.length) old e) ∧
       St (o'.G++T) R (w1.alloc (.cells (rows.flatten.toArray++news.flatten.toArray++Builtin.zeroCells z.cells (grownCap w (rows.length+news.length) old e-(rows.length+news.length))) e)):=by
   intro old w1 hs1 hold hsz
   have hge:=grownCap_ge w (rows.length+news.length) old e
   have hcm:grownCap w (rows.length+news.length) old e≤maxLen:=grownCap_le_maxLen w _ old e (by simp only [maxLen];omega)
   refine ⟨⟨.slice (some ⟨w.heap.size,0,none⟩) (rows++news).length (grownCap w (rows.length+news.length) old e),[(w.heap.size,cel e ((rows++news).flatten++(Builtin.zeroCells z.cells (grownCap w (rows.length+news.length) old e-(rows.length+news.length))).toList))],hlen',.inr ⟨_,_,_,rfl,rfl,?_,?_,?_⟩⟩,?_,?_⟩
   · simp only [Array.length_toList,size_zeroCells,hzs,List.length_append,← Nat.add_mul]
     congr 1;omega
   · simpa using hge
   · simp only [maxLen] at hcm;omega
   · simp
   · have h2:=hs1.alloc (.cells (rows.flatten.toArray++news.flatten.toArray++Builtin.zeroCells z.cells (grownCap w (rows.length+news.length) old e-(rows.length+news.length))) e)
     rw [hsz] at h2
     have e1:(cel e ((rows++news).flatten++(Builtin.zeroCells z.cells (grownCap w (rows.length+news.length) old e-(rows.length+news.length))).toList)) = .cells (rows.flatten.toArray++news.flatten.toArray++Builtin.zeroCells z.cells (grownCap w (rows.length+news.length) old e-(rows.length+news.length))) e:=by
       unfold cel;congr 1;apply Array.toList_inj.1;simp
     show St ((_,_)::T) R _
     rw [e1];exact h2
 obtain ⟨fs,G,hl,his⟩:=o
 rcases his with ⟨rfl,rfl,rfl⟩ | ⟨b,cap,junk,rfl,rfl,hj,hc,hm⟩
 · have h2:=run_append_nil (P:=P) w t ty e i z hu hi hz ⟨bx,offx,none⟩ news.length c news.flatten hnf hcell hn0 (by simp at h63;omega) (by simp at hby;omega)
   obtain ⟨o',ho1,ho2⟩:=new 0 w.drew hs.drew (by simp;omega) rfl
   refine ⟨o',_,⟨?_,fun ⟨_,_,h⟩=>by cases h⟩,ho2⟩
   simp only [List.length_nil,Nat.zero_add,List.flatten_nil] at ho1 h2 ⊢
   rw [ho1,h2]
   simp
 · have hb:=hs.held (b,cel e (rows.flatten++junk)) (by simp)
   by_cases hroom:rows.length+news.length≤cap
   · have hm2:(rows.length+news.length)*i.size≤cap*i.size:=Nat.mul_le_mul_right _ hroom
     rw [Nat.add_mul] at hm2
     have h2:=run_append_room (P:=P) w t ty e i hu hi b rows.length cap _ hb ⟨bx,offx,none⟩ news.length c news.flatten hnf hcell (Z5A h1) hroom (by simp only [List.size_toArray,List.length_append,hrf,hnf];omega)
     have hset:w.setRow b ((rows.flatten++junk).toArray.toList.take (rows.length*i.size)++news.flatten++(rows.flatten++junk).toArray.toList.drop (rows.length*i.size+news.flatten.length)).toArray =
         { w with heap:=w.heap.setIfInBounds b (cel e ((rows++news).flatten++junk.drop news.flatten.length)) }:=by
       rw [Z0U hb]
       have e1:(rows.flatten++junk).take (rows.length*i.size)=rows.flatten:=by rw [← hrf,List.take_left]
       have e2:(rows.flatten++junk).drop (rows.length*i.size+news.flatten.length)=junk.drop news.flatten.length:=by rw [← hrf,List.drop_append];simp
       have e3:((rows.flatten++junk).toArray.toList.take (rows.length*i.size)++news.flatten++(rows.flatten++junk).toArray.toList.drop (rows.length*i.size+news.flatten.length))=(rows++news).flatten++junk.drop news.flatten.length:=by
         simp only [e1,e2,List.flatten_append]
       rw [e3]
     refine ⟨⟨.slice (some ⟨b,0,none⟩) (rows++news).length cap,[(b,cel e ((rows++news).flatten++junk.drop news.flatten.length))],hlen',.inr ⟨_,_,_,rfl,rfl,?_,by simpa using hroom,hm⟩⟩,_,⟨h2.trans ?_,fun _=>⟨b,cap,rfl⟩⟩,St.set hs⟩
     · simp only [List.length_drop,List.length_append,hnf,Nat.add_mul]
       omega
     · rw [hset];simp
   · have holds:∀ j v,rows.flatten[j]?=some v→w.cell? ((⟨b,0,none⟩:Addr).add j)=some v:=fun j v h=>by
       have hlt:j<rows.flatten.length:=(List.getElem?_eq_some_iff.1 h).1
       rw [ZB,Z0H hb]
       simp only [Nat.zero_add,List.getElem?_toArray]
       rw [List.getElem?_append_left hlt];exact h
     have h2:=run_append_grow (P:=P) w t ty e i z hu hi hz ⟨b,0,none⟩ rows.length cap rows.flatten hrf holds ⟨bx,offx,none⟩ news.length c news.flatten hnf hcell (by omega) (by omega) (growslice_fits (by omega) hby)
     obtain ⟨o',ho1,ho2⟩:=new cap w.drew (St.tail hs).drew (by omega) rfl
     exact ⟨o',_,⟨by rw [ho1];exact h2,fun _=>⟨_,_,by rw [ho1,← List.length_append]⟩⟩,ho2⟩
class RepF (F:Z8) (H:Z8) (C:outParam (Z8→Z8)):Prop where
 rep:∃ T,H.Perm (F++T)∧∀ F',(F'++T).Perm (C F')
instance RepF.here (F T:Z8):RepF F (F++T) (fun F'=>F'++T):=⟨⟨T,.refl _,fun _=>.refl _⟩⟩
instance (priority:=low) RepF.cons (F:Z8) (p:Nat×Obj) (H:Z8) (C:Z8→Z8) [m:RepF F H C]:RepF F (p::H) (fun F'=>p::C F') :=
 ⟨by
   obtain ⟨T,h1,h2⟩:=m.rep
   exact ⟨p::T,(List.Perm.cons p h1).trans List.perm_middle.symm,fun F'=>List.perm_middle.trans (List.Perm.cons p (h2 F'))⟩⟩
instance (priority:=low) RepF.app (F:Z8) (G H:Z8) (C:Z8→Z8) [m:RepF F H C]:RepF F (G++H) (fun F'=>G++C F') :=
 ⟨by
   obtain ⟨T,h1,h2⟩:=m.rep
   exact ⟨G++T,(List.Perm.append_left G h1).trans (ZC _ _ _),fun F'=>(ZC _ _ _).trans (List.Perm.append_left G (h2 F'))⟩⟩
section rules
variable {P:Program} {r:Option Nat} {ops:Array Oper} {n:Nat} {L:Zm} {D:List Deferred} {H:Z8} {R:Z5} {K:Act→World→Prop}
 {i d:Nat} {ty:TypeId} {pos:String} {af:Array Edge}
theorem apO {t e sz by_ c k:Nat} {s x:Operand} {rows news:List (List Value)} (o:OSl e sz rows) {ax:Option Addr} {C:Z8→Z8}
   (ho:ops[i]?=some ⟨some d,.call { callee:=.builtin .append,args := #[s,x],argTypes := #[t,t] },ty,pos,af,none⟩) (ht:apT P t=some (e,sz,by_))
   (hs:ev L s=some o.fs) (hx:ev L x=some (.slice ax k c)) (hr:∀ w,St H R w→RowsA ax sz news w) (hk:news.length=k) (h1:Z05 news=true)
   (hb:(rows.length+news.length)*by_≤140737488355328∧rows.length+news.length≤9223372036854775807) (hd:Nat.blt d n=true)
   [rp:RepF o.G H C]
   (h:∀ o':OSl e sz (rows++news),Sy n ((d,o'.fs)::L) D (C o'.G) R K):Sy n L D H R (stp P r ops i K):=fun a w ha hD hs0=>by
 subst hk
 obtain ⟨T,p1,p2⟩:=rp.rep
 obtain ⟨o',w',⟨h2,_⟩,h3⟩:=Z4m ht o (hs0.perm p1) (hr w hs0) h1 hb.1 hb.2
 refine Zp ho (Zh _ rfl _) (v:=o'.fs) (w':=w') ?_ (h o' _ _ (ha.put (by simpa using hd) _) hD (h3.perm (p2 _)))
 simp only [execOp,resolve,invoke,builtin,Sem.run_bind,Sem.run_pure,Result.andThen,List.map_toArray,List.map_cons,List.map_nil,ha.reads _ _ hs,ha.reads _ _ hx]
 rw [show (Builtin.append_ #[t,t] ty #[o.fs,.slice ax news.length c]).run P w=_ from h2]
theorem ZkI {t e sz by_ c k:Nat} {s x:Operand} {rows news:List (List Value)} (o:OSl e sz rows) {ax:Option Addr} {C:Z8→Z8}
   (ho:ops[i]?=some ⟨some d,.call { callee:=.builtin .append,args := #[s,x],argTypes := #[t,t] },ty,pos,af,none⟩) (ht:apT P t=some (e,sz,by_))
   (hs:ev L s=some o.fs) (hx:ev L x=some (.slice ax k c)) (hr:∀ w,St H R w→RowsA ax sz news w) (hk:news.length=k) (h1:Z05 news=true)
   (hb:(rows.length+news.length)*by_≤140737488355328∧rows.length+news.length≤9223372036854775807) (hd:Nat.blt d n=true)
   [rp:RepF o.G H C]
   (hh:o.here) (h:∀ o':OSl e sz (rows++news),o'.here→Sy n ((d,o'.fs)::L) D (C o'.G) R K):Sy n L D H R (stp P r ops i K):=fun a w ha hD hs0=>by
 subst hk
 obtain ⟨T,p1,p2⟩:=rp.rep
 obtain ⟨o',w',⟨h2,h9⟩,h3⟩:=Z4m ht o (hs0.perm p1) (hr w hs0) h1 hb.1 hb.2
 refine Zp ho (Zh _ rfl _) (v:=o'.fs) (w':=w') ?_ (h o' (h9 hh) _ _ (ha.put (by simpa using hd) _) hD (h3.perm (p2 _)))
 simp only [execOp,resolve,invoke,builtin,Sem.run_bind,Sem.run_pure,Result.andThen,List.map_toArray,List.map_cons,List.map_nil,ha.reads _ _ hs,ha.reads _ _ hx]
 rw [show (Builtin.append_ #[t,t] ty #[o.fs,.slice ax news.length c]).run P w=_ from h2]
theorem Zbs {a:Option Addr} {sz:Nat} {rows:List (List Value)} [m:MemRows a sz rows R]:∀ w,St H R w→RowsA a sz rows w:=fun _ hs=>hs.now m.mem
theorem Z0B {b e sz:Nat} {row:List Value} [m:Mem1 b (cel e row) H] (hl:row.length=sz):∀ w,St H R w→RowsA (some ⟨b,0,none⟩) sz [row] w:=fun w hs i q hi=>by
 match i,hi with
 | 0,hi =>
   simp only [List.getElem?_cons_zero,Option.some.injEq] at hi
   subst hi
   refine ⟨hl,b,0,rfl,fun j x hx=>?_⟩
   rw [Z0H (hs.held _ m.mem)]
   simpa using hx
end rules
def eqF (g:Nat→Option (Bool×Nat)):Nat→List Field→Option Nat
 | o,[]=>some o
 | o,f::fs=>match g f.type with
   | some (b, s) => bif (!(f.name == "_")) && Nat.beq f.offset o && (b || Nat.beq s 1) then eqF g (o + s) fs else none
   | none=>none
def eqB (P:Program):Nat→Nat→Option (Bool×Nat)
 | 0,_=>none
 | d+1,T=>match P.underlying T with
   | some (.int _)=>match (P.info? T).map (·.size) with
     | some m=>bif Nat.beq m 1 then some (false,1) else none
     | none=>none
   | some (.array n e)=>match eqB P d e,(P.info? T).map (·.size) with
     | some (b,s),some m=>bif Nat.beq m (n*s)&&(b||Nat.beq s 1) then some (true,m) else none
     | _,_=>none
   | some (.struct fs)=>match eqF (eqB P d) 0 fs.toList,(P.info? T).map (·.size) with
     | some m',some m=>bif Nat.beq m' m&&!(P.stoodInHeld T) then some (true,m) else none
     | _,_=>none
   | _=>none
theorem ZdS {P:Program} {d:Nat} (ih:∀ T b s,eqB P d T=some (b,s)→EQ P d b T s):∀ (fs:List Field) (o m:Nat),eqF (eqB P d) o fs=some m→EQs P d o fs m
 | [],o,m,h=>by simp only [eqF,Option.some.injEq] at h;subst h;exact .nil _
 | f::fs,o,m,h=>by
   unfold eqF at h
   split at h
   · rename_i b s hb
     cases hc : ((!(f.name == "_")) && Nat.beq f.offset o && (b || Nat.beq s 1)) with
     | false=>rw [hc] at h;cases h
     | true =>
       rw [hc] at h
       simp only [Bool.and_eq_true,Bool.not_eq_true',Bool.or_eq_true] at hc
       exact .cons hc.1.1 (Nat.eq_of_beq_eq_true hc.1.2) (ih _ _ _ hb) (fun hbf=>by rcases hc.2 with h1 | h1;(rw [hbf] at h1;cases h1);exact Nat.eq_of_beq_eq_true h1) (ZdS ih fs _ _ h)
   · cases h
theorem Z1v {P:Program}:∀ (d T:Nat) (b:Bool) (s:Nat),eqB P d T=some (b,s)→EQ P d b T s
 | 0,_,_,_,h=>by cases h
 | d+1,T,b,s,h=>by
   unfold eqB at h
   split at h
   · rename_i k hu
     split at h
     · rename_i m hm
       cases hc:Nat.beq m 1 with
       | false=>rw [hc] at h;cases h
       | true=>rw [hc] at h;cases h;rw [Nat.eq_of_beq_eq_true hc] at hm;exact ZhV hu hm
     · cases h
   · rename_i n e hu
     split at h
     · rename_i b' s' m he hm
       cases hc:(Nat.beq m (n*s')&&(b'||Nat.beq s' 1)) with
       | false=>rw [hc] at h;cases h
       | true =>
         rw [hc] at h;cases h
         simp only [Bool.and_eq_true,Bool.or_eq_true] at hc
         have:=Nat.eq_of_beq_eq_true hc.1
         subst this
         exact ZhU hu hm (Z1v d e _ _ he) (fun hbf=>by rcases hc.2 with h1 | h1;(rw [hbf] at h1;cases h1);exact Nat.eq_of_beq_eq_true h1)
     · cases h
   · rename_i fs hu
     split at h
     · rename_i m' m hf hm
       cases hc:(Nat.beq m' m&&!(P.stoodInHeld T)) with
       | false=>rw [hc] at h;cases h
       | true =>
         rw [hc] at h;cases h
         simp only [Bool.and_eq_true,Bool.not_eq_true'] at hc
         have:=Nat.eq_of_beq_eq_true hc.1
         subst this
         exact Zap hu hc.2 hm (ZdS (fun T b s hT=>Z1v d T b s hT) _ _ _ hf)
     · cases h
   · cases h
def Z2H (P:Program):Nat→Nat→Bool
 | 0,_=>false
 | d+1,T=>match P.underlying T with
   | some (.int _)=>true
   | some (.struct fs)=>fs.toList.all fun f=>Z2H P d f.type
   | some (.array _ e)=>Z2H P d e
   | _=>false
theorem ZdH {P:Program} {d:Nat} (ih:∀ T b s,eqB P d T=some (b,s)→Z2H P d T=true→CK P d b T s):∀ (fs:List Field) (o m:Nat),eqF (eqB P d) o fs=some m→(∀ f∈fs,Z2H P d f.type=true)→CKs P d d o fs m
 | [],o,m,h,_=>by simp only [eqF,Option.some.injEq] at h;subst h;exact .nil _
 | f::fs,o,m,h,h2=>by
   unfold eqF at h
   split at h
   · rename_i b s hb
     cases hc : ((!(f.name == "_")) && Nat.beq f.offset o && (b || Nat.beq s 1)) with
     | false=>rw [hc] at h;cases h
     | true =>
       rw [hc] at h
       simp only [Bool.and_eq_true,Bool.not_eq_true',Bool.or_eq_true] at hc
       exact .cons (Nat.eq_of_beq_eq_true hc.1.2) (Z1v _ _ _ _ hb) (fun hbf=>by rcases hc.2 with h1 | h1;(rw [hbf] at h1;cases h1);exact Nat.eq_of_beq_eq_true h1) (ih _ _ _ hb (h2 f (by simp))) (ZdH ih fs _ _ h (fun g hg=>h2 g (by simp [hg])))
   · cases h
theorem ZeU {P:Program}:∀ (d T:Nat) (b:Bool) (s:Nat),eqB P d T=some (b,s)→Z2H P d T=true→CK P d b T s
 | 0,_,_,_,h,_=>by cases h
 | d+1,T,b,s,h,h2=>by
   unfold eqB at h
   unfold Z2H at h2
   split at h2
   · rename_i k hu
     rw [hu] at h
     dsimp only at h
     split at h
     · rename_i m hm
       cases hc:Nat.beq m 1 with
       | false=>rw [hc] at h;cases h
       | true=>rw [hc] at h;cases h;exact ZhF hu
     · cases h
   · rename_i fs hu
     rw [hu] at h
     dsimp only at h
     split at h
     · rename_i m' m hf hm
       cases hc:(Nat.beq m' m&&!(P.stoodInHeld T)) with
       | false=>rw [hc] at h;cases h
       | true =>
         rw [hc] at h;cases h
         simp only [Bool.and_eq_true,Bool.not_eq_true'] at hc
         have:=Nat.eq_of_beq_eq_true hc.1
         subst this
         exact Zah hu (ZdH (fun T b s h3 h4=>ZeU d T b s h3 h4) _ _ _ hf (fun f hf'=>List.all_eq_true.1 h2 f hf'))
     · cases h
   · rename_i n e hu
     rw [hu] at h
     dsimp only at h
     split at h
     · rename_i b' s' m he hm
       cases hc:(Nat.beq m (n*s')&&(b'||Nat.beq s' 1)) with
       | false=>rw [hc] at h;cases h
       | true =>
         rw [hc] at h;cases h
         simp only [Bool.and_eq_true,Bool.or_eq_true] at hc
         have:=Nat.eq_of_beq_eq_true hc.1
         subst this
         exact ZhE hu (Z1v _ _ _ _ he) (fun hbf=>by rcases hc.2 with h1 | h1;(rw [hbf] at h1;cases h1);exact Nat.eq_of_beq_eq_true h1) (ZeU d e _ _ he h2)
     · cases h
   · cases h2
theorem KeyT.of {P:Program} {T s:Nat} {b:Bool} (h:eqB P 10000 T=some (b,s)) (h2:Z2H P 10000 T=true):KeyT P b T s where
 eq:=Z1v _ _ _ _ h
 ck:=ZeU _ _ _ _ h h2
 one hb:=by
   subst hb
   rw [show (10000:Nat)=9999+1 from rfl] at h h2
   unfold eqB at h
   unfold Z2H at h2
   split at h2
   · rename_i k hu
     rw [hu] at h
     dsimp only at h
     split at h
     · rename_i m hm
       cases hc:Nat.beq m 1 with
       | false=>rw [hc] at h;cases h
       | true=>rw [hc] at h;cases h;exact ⟨rfl,k,hu⟩
     · cases h
   · rename_i fs hu
     rw [hu] at h
     dsimp only at h
     split at h
     · rename_i m' m hf hm
       cases hc:(Nat.beq m' m&&!(P.stoodInHeld T))<;>rw [hc] at h<;>cases h
     · cases h
   · rename_i n e hu
     rw [hu] at h
     dsimp only at h
     split at h
     · rename_i b' s' m he hm
       cases hc:(Nat.beq m (n*s')&&(b'||Nat.beq s' 1))<;>rw [hc] at h<;>cases h
     · cases h
   · cases h2
 agg hb:=by
   subst hb
   rw [show (10000:Nat)=9999+1 from rfl] at h h2
   unfold eqB at h
   unfold Z2H at h2
   split at h2
   · rename_i k hu
     rw [hu] at h
     dsimp only at h
     split at h
     · rename_i m hm
       cases hc:Nat.beq m 1<;>rw [hc] at h<;>cases h
     · cases h
   · rename_i fs hu
     exact .inl ⟨fs,hu⟩
   · rename_i n e hu
     exact .inr ⟨n,e,hu⟩
   · cases h2
section small
variable {P:Program} {n:Nat} {L:Zm} {D:List Deferred} {H:Z8} {R:Z5} {r:Option Nat} {ops:Array Oper} {K:Act→World→Prop} {i:Nat} {ty:TypeId} {pos:String} {af:Array Edge}
theorem Z4z {T:TypeId} {x y:Operand} {b k:Nat} {vs:List Value} {o:Obj} [m:Mem1 b o H] {e:TypeId} {l:List Value} {H':Z8} (ho:ops[i]?=some ⟨none,.store T x y,ty,pos,af,none⟩)
   (hx:ev L x=some (.pointer (some ⟨b,0,none⟩))) (hy:ev L y=some (.agg vs.toArray)) (hT:ZF P T=some k) (hc:o=cel e l) (hk:vs.length=k) (hl:l.length=k) (h1:vs.all (·.oneCell')=true)
   [rp:Rep [(b,o)] [(b,cel e vs)] H H']
   (h:Sy n L D H' R K):Sy n L D H R (stp P r ops i K) :=
 ZH (l':=vs) ho hx hy hT hc (by simpa [Value.cells] using hk) (by simpa [Value.cells] using h1) (by simp [Value.cells,spl,hk,← hl]) (by simp [Value.cells,hl,hk]) h
def OSl.cast {e sz:Nat} {rows rows':List (List Value)} (o:OSl e sz rows) (h:rows=rows'):OSl e sz rows':=⟨o.fs,o.G,h▸o.len,h▸o.is⟩
theorem ZA (l:List Int):(Za l).all (·.oneCell')=true:=by
 simp [Za,Value.oneCell']
theorem OSl.cells {e sz:Nat} {rows:List (List Value)} (o:OSl e sz rows):o.fs.cells.toList=[o.fs]∧o.fs.oneCell'=true:=by
 rcases o.is with ⟨_,h,_⟩ | ⟨b,cap,junk,h,_⟩<;>rw [h]<;>exact ⟨rfl,rfl⟩
end small
end Go.Proofs.YtcfdanhklbklkaaGreat
