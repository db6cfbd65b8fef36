/- Walks of the functions of the program, and the laws that join them: what the last theorem of this claim needs, in order. -/
import Derived.Test.YtcfdanhklbklkaaGreatTs6
namespace Go.Proofs.YtcfdanhklbklkaaGreat.Sk
set_option linter.unusedSimpArgs false
set_option linter.unusedVariables false
open Go
theorem ZdJ:cal Tryz.prog 117=true:=by kernel_rfl
theorem Zh5:cal Tryz.prog 200=true:=by kernel_rfl
theorem ZhL:ZJ Tryz.prog 37=some 2:=by kernel_rfl
theorem Zie:Z00 Tryz.prog 235=some [(0,1),(1,1)]:=by kernel_rfl
theorem Zkl:Z00 Tryz.prog 37=some [(0,1),(1,1)]:=by kernel_rfl
theorem ZiH:ZD Tryz.prog 235=some ([.nilFunc,.bool false]):=by kernel_rfl
theorem Zg5:ZD Tryz.prog 37=some ([.int .i64 0,.int .i64 0]):=by kernel_rfl
def wt0 (S:Nat→Bool) (i:Nat):Int:=bif S i then 1 else 0
theorem Zem (S:Nat→Bool):wtl S false=wt0 S:=funext fun i=>by unfold wtl wt0;cases S i<;>rfl
theorem ZfV (S:Nat→Bool):wtl S true=fun i => -wt0 S i:=funext fun i=>by unfold wtl wt0;cases S i<;>rfl
theorem ZbZ (S:Nat→Bool) (less:Bool) (i:Nat) : -1≤wtl S less i∧wtl S less i≤1:=by unfold wtl;cases S i<;>cases less<;>decide
theorem Z63:∀ {A:List Int} {w:Nat→Int},(∀ i,-1≤w i∧w i≤1)→(∀ i,0≤na A i∧na A i≤300) → -(300*(A.length:Int))≤Z0O w A∧Z0O w A≤300*(A.length:Int)
 | [],w,_,_=>by constructor<;>exact Int.le_refl _
 | a::A,w,hw,hA=>by
   have ih:=Z63 (A:=A) (w:=fun i=>w (i+1)) (fun i=>hw (i+1)) (fun i=>hA (i+1))
   have h0:0≤a∧a≤300:=hA 0
   have h1:=hw 0
   show _≤w 0*a+Z0O (fun i=>w (i+1)) A∧w 0*a+Z0O (fun i=>w (i+1)) A≤_
   rw [List.length_cons]
   have h2:w 0*a≤1*a:=Int.mul_le_mul_of_nonneg_right h1.2 h0.1
   have h3 : -1*a≤w 0*a:=Int.mul_le_mul_of_nonneg_right h1.1 h0.1
   omega
theorem Z6U:∀ {A:List Int} {w:Nat→Int} {i:Nat},i<A.length→Z0O w (A.take (i+1))=Z0O w (A.take i)+w i*na A i
 | a::A,w,0,_=>by
   show w 0*a+Z0O (fun i=>w (i+1)) (A.take 0)=0+w 0*a
   rw [List.take_zero];show w 0*a+0=_;omega
 | a::A,w,i+1,h=>by
   have ih:=Z6U (A:=A) (w:=fun i=>w (i+1)) (i:=i) (by simpa using h)
   show w 0*a+Z0O (fun i=>w (i+1)) (A.take (i+1))=(w 0*a+Z0O (fun i=>w (i+1)) (A.take i))+w (i+1)*na A i
   rw [ih];omega
theorem Zd7 {A:List Int} {k:Nat} (h:∀ i,0≤na A i∧na A i≤300):∀ i,0≤na (A.take k) i∧na (A.take k) i≤300:=fun i=>by
 by_cases e:i<k
 · rw [Z7u e];exact h i
 · rw [Z7s (by rw [List.length_take];omega)];omega
set_option maxHeartbeats 1200000 in
theorem Z50 (d:DD) (hy:d.y.ok) (A0:List Int) (hf0:Feas (d.y.cells+1) d.y.flows A0) (g:Nat) (vf vc:List Value) (S:Nat→Bool) (less:Bool) (G:Z4) (hcal:cal Tryz.prog g=true) (hg:∀ (i:Nat) (H:Z8) (R:Z4) [SubF G R],FnV Tryz.prog g (vf++[.int .i64 (i:Int)]++vc) H R (.bool (S i))) (H:Z8) (R:Z4) [hD:MemRows (some ⟨d.bd,0,none⟩) 6 [d.l] R] [hF:MemRows (some ⟨d.fb,0,none⟩) 4 (ZM d.y.flows) R] [hG:SubF G R] :
    Fn Tryz.prog 117 [.pointer (some ⟨d.bd,0,none⟩),.agg (Z6y g vf vc less).toArray] ((d.ba,cel 3 (Zp A0++d.J))::H) R (fun v H' R'=>∃ A,Feas (d.y.cells+1) d.y.flows A∧(∀ B,Feas (d.y.cells+1) d.y.flows B→Z0O (wtl S less) B≤Z0O (wtl S less) A)∧v = .int .i64 (Z0O (wt0 S) A)∧H'=(d.ba,cel 3 (Zp A++d.J))::H∧R'=R):=by
 have hfl:=Z04 hy
 have hcl:=Z28 hy
 refine Zc Tryz.func117 rfl Tryz.ntmps117 rfl ?_
 refine sqt 2 rfl (bx rfl rfl rfl (fun b3=>pur 1 rfl (Z0 (Z3 ?_))))
 refine Zb (ι:={A:List Int // Feas (d.y.cells+1) d.y.flows A}) (fun A=>⟨[(0,.pointer (some ⟨d.bd,0,none⟩)),(3,.pointer (some ⟨b3,0,none⟩))],(d.ba,cel 3 (Zp A.1++d.J))::(b3,cel 235 (Z6y g vf vc less))::H,R⟩) (fun A=>(10200-Z0O (wtl S less) A.1).toNat) ⟨A0,hf0⟩ ?_ (fun A=>?_)
 exact Ze (fun w h=>h.pull d.ba)
 obtain ⟨A,hf⟩:=A
 dsimp only at hf ⊢
 have hA:=hf.aok hy
 refine Z3 (sqt 4 rfl (pur 1 rfl (spL rfl rfl (lhA (Z6y g vf vc less) Zes rfl (rest:=[]) rfl rfl) rfl ?_)))
 refine cl rfl Zh5 rfl rfl (Zcl d hy A hf g vf vc S less G hcal hg _ _) ?_
 rintro _ _ R9 (⟨rfl,rfl,hR9,hbest⟩ | ⟨l,pb,pc,b,rfl,rfl,rfl,⟨hl0,hll⟩,hw,hnd,hch,hok⟩)
 refine pur 1 rfl (Z0 (sqt 2 rfl (pur 1 rfl (sp rfl (PE.eqlNil Z4m rfl rfl) rfl ?_))))
 refine Z1 rfl ?_ ?_<;>intro hc0
 obtain rfl:=hR9.symm
 refine Z9 (Za (Z05 (by decide) (Za (Zh (sqt 1 rfl (pur 1 rfl (Z0 (sqt 6 rfl (pur 1 rfl (sp rfl (PE.nilCheck rfl) rfl (sp rfl (PE.fA Z0A rfl) rfl (spL rfl rfl (lfB (sz:=6) Z0x rfl) rfl (sp rfl (PE.lenSl ZT rfl) rfl (pur 1 rfl (Z3 ?_)))))))))))))))
 refine Zb (ι:={i:Nat // i≤d.y.flows.length}) (fun i=>⟨[(0,.pointer (some ⟨d.bd,0,none⟩)),(3,.pointer (some ⟨b3,0,none⟩)),(11,.int .i64 (Z0O (wt0 S) (A.take i.1))),(43,.slice (some ⟨d.ba,0,none⟩) d.y.flows.length d.ca),(44,.int .i64 (d.y.flows.length:Int)),(45,.int .i64 (i.1:Int))],(d.ba,cel 3 (Zp A++d.J))::(b3,cel 235 (Z6y g vf vc less))::H,R⟩) (fun i=>d.y.flows.length-i.1) ⟨0,Nat.zero_le _⟩ ?_ (fun i=>?_)
 exact Ze idH
 obtain ⟨i,hi⟩:=i
 dsimp only at hi ⊢
 refine sqt 1 rfl (pur 1 rfl (Z0 ?_))
 refine Z1 rfl ?_ ?_<;>intro hc2<;>try simp only [cS] at hc2
 have hil:i<A.length:=by rw [hA.len];omega
 have hst:=Z6U (w:=wt0 S) hil
 have hbd:=Z63 (A:=A.take i) (w:=wt0 S) (fun q=>by rw [← Zem];exact ZbZ S false q) (Zd7 hA.bnd)
 rw [List.length_take,Nat.min_eq_left (by omega)] at hbd
 have hai:=hA.bnd i
 refine Z2 (Z0 (Z3 (sqt 5 rfl (pur 1 rfl (sp rfl (PE.indexAddr Z0G rfl rfl (by omega) (by omega)) rfl (spL rfl rfl (lh sc3 rfl (Z2P (k:=i) hil (by show 0+((i:Nat):Int).toNat*1=_;omega))) rfl (pur 2 rfl (sqt 4 rfl (sp rfl (PE.fA ZaQ rfl) rfl (spL rfl rfl (lh Z3k rfl rfl) rfl (pur 1 rfl ?_)))))))))))
 refine Z3t rfl rfl (hcal) rfl rfl (hg i _ _) ?_
 refine Z1 rfl ?_ ?_<;>intro hc3
 refine sqr 4 rfl (pur 2 rfl (sp rfl (PE.add rfl rfl (by omega)) rfl (pur 1 rfl (sqr 2 rfl (sp rfl (PE.add rfl rfl (by omega)) rfl (pur 1 rfl ?_))))))
 rw [show wt0 S i=1 by unfold wt0;rw [hc3];rfl,Int.one_mul] at hst
 exact ZC ⟨i+1,by omega⟩ (by dsimp only;omega) (by dsimp only;rw [hst];exact sbA) idH
 refine Z2 (sqr 2 rfl (sp rfl (PE.add rfl rfl (by omega)) rfl (pur 1 rfl ?_)))
 rw [show wt0 S i=0 by unfold wt0;rw [hc3];rfl,Int.zero_mul,Int.add_zero] at hst
 exact ZC ⟨i+1,by omega⟩ (by dsimp only;omega) (by dsimp only;rw [hst];exact sbA) idH
 obtain rfl:i=d.y.flows.length:=by omega
 rw [List.take_of_length_le (by rw [hA.len];exact Nat.le_refl _)]
 refine Z9 (Za (Za (Zh (sqt 2 rfl (pur 2 rfl (Z5 ?_))))))
 exact rtA rfl rfl rfl ⟨A,hf,hbest,rfl,rfl,rfl⟩ (fun w h=>h.del b3)
 exact absurd hc0 (by simp)
 refine pur 1 rfl (Z0 (sqt 2 rfl (pur 1 rfl (sp rfl (PE.eqlNil Z4m rfl rfl) rfl ?_))))
 refine Z1 rfl ?_ ?_<;>intro hc0
 exact absurd hc0 (by simp)
 refine Z2 (sqt 1 rfl (pur 1 rfl (Z0 (sqt 3 rfl (pur 1 rfl (sp rfl (PE.lenSl Z4m rfl) rfl (pur 1 rfl (Z3 ?_))))))))
 refine Zb (ι:={x:Nat×Int // x.1≤l.length∧(1≤x.2∧x.2≤300)∧∀ w∈l.take x.1,x.2≤w.res d.y.flows A}) (fun x=>⟨[(0,.pointer (some ⟨d.bd,0,none⟩)),(3,.pointer (some ⟨b3,0,none⟩)),(5,.slice (some ⟨pb,0,none⟩) l.length pc),(6,.int .i64 x.1.2),(19,.slice (some ⟨pb,0,none⟩) l.length pc),(20,.int .i64 (l.length:Int)),(21,.int .i64 (x.1.1:Int))],(d.ba,cel 3 (Zp A++d.J))::(b3,cel 235 (Z6y g vf vc less))::H,RowsA (some ⟨pb,0,none⟩) 2 (Zq l)::R⟩) (fun x=>l.length-x.1.1) ⟨(0,300),Nat.zero_le _,by decide,fun w h=>by cases h⟩ ?_ (fun x=>?_)
 exact Ze idH
 obtain ⟨⟨j,mo⟩,hj,hmo,hmr⟩:=x
 dsimp only at hj hmo hmr ⊢
 refine sqt 1 rfl (pur 1 rfl (Z0 ?_))
 refine Z1 rfl ?_ ?_<;>intro hc1<;>try simp only [cS] at hc1
 obtain ⟨w9,hw9⟩:∃ x,l[j]?=some x:=⟨_,List.getElem?_eq_getElem (by omega)⟩
 have hwo:=hok w9 (List.mem_of_getElem? hw9)
 have hw1:=hwo.2.1
 refine Z2 (Z0 (Z3 (sqt 4 rfl (sp rfl (PE.indexAddr Z4S rfl rfl (by omega) (by omega)) rfl (spL rfl rfl (lfA Z1M (Z1L hw9) rfl) rfl (alc rfl Z2H rfl (fun b8=>?_)))))))
 refine ZB (l':=wyr w9) rfl rfl rfl Z7c rfl rfl rfl rfl (nl rfl) ?_
 refine sqt 8 rfl (pur 1 rfl (spL rfl rfl (lhA (wyr w9) Z1M rfl (rest:=[]) rfl rfl) rfl ?_))
 refine clV rfl Z7Y rfl rfl (Zco d hy w9 hwo.1 A hA _ _) ?_
 refine pur 5 rfl (sqr 5 rfl (pur 2 rfl ?_))
 refine bsl (out:=[_]) rfl Z0F zl3 rfl rfl rfl rfl rfl rfl (fun b33=>?_)
 refine clV rfl Z6d rfl rfl (Z48 _ _ b33 _ _ _) ?_
 refine pur 1 rfl (sqr 2 rfl (sp rfl (PE.add rfl rfl (by omega)) rfl (pur 1 rfl ?_)))
 exact ZC ⟨(j+1,min mo (w9.res d.y.flows A)),by dsimp only;omega,by dsimp only;omega,fun w hw=>by
   dsimp only at hw ⊢
   rw [List.take_add_one,hw9,Option.toList_some] at hw
   rcases List.mem_append.1 hw with h9 | h9
   · have:=hmr w h9;omega
   · rw [List.mem_singleton.1 h9];omega⟩ (by dsimp only;omega) sbA (fun w h=>(h.del b33).del b8)
 obtain rfl:j=l.length:=by omega
 rw [List.take_length] at hmr
 have hs:=Zdm hf (n:=mo) (fun w hw=>⟨(hok w hw).1,hmr w hw⟩) hnd (by omega) hch
 have hws:=Z8Z (n:=mo) (w:=(wtl S less)) (A:=A) (l:=l) (fun v hv=>by rw [hA.len];exact (hok v hv).1)
 have hb1:=Z63 (ZbZ S less) hA.bnd
 have hb2:=Z63 (ZbZ S less) (hs.aok hy).bnd
 rw [hA.len] at hb1
 rw [hs.len] at hb2
 have hmw:1*1≤mo*wth (wtl S less) l:=Int.mul_le_mul hmo.1 (by omega) (by omega) (by omega)
 refine Z9 (Za (Za (Zh (sqr 4 rfl (pur 3 rfl ?_)))))
 refine cl rfl ZdS rfl rfl (ZdG d hy A hA.len (fun k=>by have:=hA.bnd k;omega) l (fun w hw=>(hok w hw).1) (by omega) mo ⟨by omega,hmo.2⟩ (some ⟨pb,0,none⟩) pc _ _) ?_
 rintro _ _ _ ⟨rfl,rfl⟩
 exact Z7 ⟨snd A l mo,hs⟩ (fun w h=>h.ftail)
theorem Zgv (d:DD) (hy:d.y.ok) (A0:List Int) (hf0:Feas (d.y.cells+1) d.y.flows A0) (g:Nat) (vf vc:List Value) (S:Nat→Bool) (G:Z4) (hcal:cal Tryz.prog g=true) (hg:∀ (i:Nat) (H:Z8) (R:Z4) [SubF G R],FnV Tryz.prog g (vf++[.int .i64 (i:Int)]++vc) H R (.bool (S i))) (H:Z8) (R:Z4) [hD:MemRows (some ⟨d.bd,0,none⟩) 6 [d.l] R] [hF:MemRows (some ⟨d.fb,0,none⟩) 4 (ZM d.y.flows) R] [hG:SubF G R] :
    Fn Tryz.prog 55 [.pointer (some ⟨d.bd,0,none⟩),.func (.func g) vf.toArray vc.toArray] ((d.ba,cel 3 (Zp A0++d.J))::H) R (fun v H' R'=>∃ A s,Feas (d.y.cells+1) d.y.flows A∧(Lst (d.y.cells+1) d.y.flows (wt0 S) s.lo∧Grt (d.y.cells+1) d.y.flows (wt0 S) s.hi)∧v=spv s∧H'=(d.ba,cel 3 (Zp A++d.J))::H∧R'=R):=by
 refine Zc Tryz.func55 rfl Tryz.ntmps55 rfl ?_
 refine sqt 1 rfl (alc rfl Zg5 rfl (fun b4=>sqt 5 rfl (pur 2 rfl (sp rfl (PE.build (out:=[_,_]) Zie ZiH rfl rfl) rfl ?_))))
 refine ZH d.ba ?_
 refine cl rfl ZdJ rfl rfl (Z50 d hy A0 hf0 g vf vc S true G hcal hg _ _) ?_
 rintro _ _ _ ⟨A1,hf1,hb1,rfl,rfl,rfl⟩
 refine pur 1 rfl (sqt 7 rfl (pur 3 rfl (sp rfl (PE.build (out:=[_,_]) Zie ZiH rfl rfl) rfl ?_)))
 refine cl rfl ZdJ rfl rfl (Z50 d hy A1 hf1 g vf vc S false G hcal hg _ _) ?_
 rintro _ _ _ ⟨A2,hf2,hb2,rfl,rfl,rfl⟩
 refine sp rfl (PE.build (out:=[_,_]) Zkl Zg5 rfl rfl) rfl ?_
 refine sto rfl rfl rfl ZhL rfl rfl rfl rfl ?_
 refine Z5 ?_
 exact Zr (vs:=[_]) rfl (.cons (RV.cell rfl (lhA [.int .i64 (Z0O (wt0 S) A1),.int .i64 (Z0O (wt0 S) A2)] Z9r rfl (rest:=[]) rfl rfl)) .nil) rfl ⟨A2,⟨Z0O (wt0 S) A1,Z0O (wt0 S) A2⟩,hf2,⟨Zi6 hf1 (by rw [← ZfV];exact hb1),⟨⟨A2,hf2,rfl⟩,by rw [← Zem];exact hb2⟩⟩,rfl,rfl,rfl⟩ (fun w h=>h.del b4)
theorem Zks:apT Tryz.prog 84=some (37,2,16):=by kernel_rfl
theorem ZdI:cal Tryz.prog 113=true:=by kernel_rfl
theorem Zgy:cal Tryz.prog 114=true:=by kernel_rfl
theorem Zgz:cal Tryz.prog 115=true:=by kernel_rfl
theorem ZgA:cal Tryz.prog 116=true:=by kernel_rfl
theorem ZgJ:cal Tryz.prog 131=true:=by kernel_rfl
theorem Zjn:cal Tryz.prog 54=true:=by kernel_rfl
theorem Zjo:cal Tryz.prog 55=true:=by kernel_rfl
theorem Zjp:cal Tryz.prog 57=true:=by kernel_rfl
theorem Zjr:cal Tryz.prog 66=true:=by kernel_rfl
theorem Zjs:cal Tryz.prog 67=true:=by kernel_rfl
theorem ZkD:slE Tryz.prog 84=some (37,2):=by kernel_rfl
abbrev Z14 (l:List Spn):List (List Value):=l.map fun s=>[.int .i64 s.lo,.int .i64 s.hi]
theorem srl (l:List Spn):(Z14 l).length=l.length:=List.length_map _
def Zdb (k i:Nat):Bool:=decide (i=k)
def BndOk (y:Yrd) (S:Nat→Nat→Bool) (k:Nat) (L:List Spn):Prop:=L.length=k∧∀ t s,L[t]?=some s→Lst (y.cells+1) y.flows (wt0 (S t)) s.lo∧Grt (y.cells+1) y.flows (wt0 (S t)) s.hi
theorem BndOk.nil (y:Yrd) (S:Nat→Nat→Bool):BndOk y S 0 []:=⟨rfl,fun t s h=>by simp at h⟩
theorem BndOk.snoc {y:Yrd} {S:Nat→Nat→Bool} {k:Nat} {L:List Spn} (h:BndOk y S k L) {s:Spn} (hs:Lst (y.cells+1) y.flows (wt0 (S k)) s.lo∧Grt (y.cells+1) y.flows (wt0 (S k)) s.hi):BndOk y S (k+1) (L++[s]):=⟨by rw [List.length_append,h.1];rfl,fun t x hx=>by
 rw [List.getElem?_append] at hx
 split at hx
 · exact h.2 t x hx
 · rename_i e
   have h1:=(List.getElem?_eq_some_iff.1 hx).1
   rw [List.length_singleton] at h1
   rw [h.1] at e h1 hx
   obtain rfl:t=k:=by omega
   rw [Nat.sub_self] at hx
   cases hx;exact hs⟩
theorem BndOk.uniq {y:Yrd} {S:Nat→Nat→Bool} {k:Nat} {L M:List Spn} (h:BndOk y S k L) (h':BndOk y S k M):L=M:=by
 refine List.ext_getElem? fun t=>?_
 by_cases e:t<k
 · obtain ⟨a,e1⟩:∃ a,L[t]?=some a:=⟨_,List.getElem?_eq_getElem (by rw [h.1];exact e)⟩
   obtain ⟨b,e2⟩:∃ b,M[t]?=some b:=⟨_,List.getElem?_eq_getElem (by rw [h'.1];exact e)⟩
   rw [e1,e2]
   have h1:=h.2 t _ e1
   have h2:=h'.2 t _ e2
   have e3:=h1.1.uniq h2.1
   have e4:=h1.2.uniq h2.2
   cases a;cases b;simp at e3 e4;rw [e3,e4]
 · rw [List.getElem?_eq_none (by rw [h.1];omega),List.getElem?_eq_none (by rw [h'.1];omega)]
theorem Zfm {y:Yrd} (hB:∃ B,Feas (y.cells+1) y.flows B):∀ i f,y.flows[i]?=some f→f.lo≤na (Z0J y.flows) i∧na (Z0J y.flows) i≤f.hi:=fun i f h=>by
 obtain ⟨B,hB⟩:=hB
 have h1:=hB.bnd i f h
 have h2:na (Z0J y.flows) i=f.lo:=Z7t (by unfold Z0J;rw [List.getElem?_map,h];rfl)
 rw [h2];omega
theorem Zfs {f:World→Prop} {G R:Z4} (h:SubF G R) (hf:f∈G):f∈R:=h.sub f hf
theorem Z9O (b7 k i:Nat) (H:Z8) (R:Z4) [hK:MemRows (some ⟨b7,0,none⟩) 1 [[.int .i64 (k:Int)]] R] :
    FnV Tryz.prog 131 [.int .i64 (i:Int),.pointer (some ⟨b7,0,none⟩)] H R (.bool (Zdb k i)):=by
 refine Zc Tryz.func131 rfl Tryz.ntmps131 rfl ?_
 refine sqt 1 rfl (pur 1 rfl (sqt 4 rfl (pur 1 rfl (spL rfl rfl (lfB (sz:=1) sc3 rfl) rfl (pur 2 rfl (Z5 ?_))))))
 exact rtA rfl rfl rfl ⟨by simp only [ZP,Zdb];congr 1;exact decide_eq_decide.2 (by omega),rfl,rfl⟩ drp
set_option maxHeartbeats 800000 in
theorem Zcm (d:DD) (hy:d.y.ok) (A0:List Int) (hf0:Feas (d.y.cells+1) d.y.flows A0) (b:Nat) (hb:b<d.y.bins.length) (H:Z8) (R:Z4) [hD:MemRows (some ⟨d.bd,0,none⟩) 6 [d.l] R] [hF:MemRows (some ⟨d.fb,0,none⟩) 4 (ZM d.y.flows) R] :
    Fn Tryz.prog 67 [.pointer (some ⟨d.bd,0,none⟩),.int .i64 (b:Int)] ((d.ba,cel 3 (Zp A0++d.J))::H) R (fun v H' R'=>∃ (A:List Int) (L:List Spn) (o:OSl 37 2 (Z14 L)),Feas (d.y.cells+1) d.y.flows A∧BndOk d.y (fun t=>Zdb (b*(d.y.days+1)+t)) (d.y.days+1) L∧v=o.fs∧H'=o.G++(d.ba,cel 3 (Zp A++d.J))::H∧R'=R):=by
 have hdy:=hy.days
 refine Zc Tryz.func67 rfl Tryz.ntmps67 rfl ?_
 refine sqt 1 rfl (pur 1 rfl (sqt 1 rfl (pur 1 rfl (Z0 (sqt 7 rfl (pur 1 rfl (sp rfl (PE.nilCheck rfl) rfl (sp rfl (PE.fA Z1f rfl) rfl (sp rfl (PE.fA Z18 rfl) rfl (spL rfl rfl (lfB (sz:=6) sc3 rfl) rfl (sp rfl (PE.add rfl rfl (by omega)) rfl (pur 1 rfl (Z3 ?_)))))))))))))
 refine Zb (ι:=(x:{x:Nat×List Int×List Spn // x.1≤d.y.days+1∧Feas (d.y.cells+1) d.y.flows x.2.1∧BndOk d.y (fun t=>Zdb (b*(d.y.days+1)+t)) x.1 x.2.2})×OSl 37 2 (Z14 x.1.2.2)) (fun x=>⟨[(0,.pointer (some ⟨d.bd,0,none⟩)),(1,.int .i64 (b:Int)),(5,x.2.fs),(13,.int .i64 ((d.y.days:Int)+1)),(14,.int .i64 (x.1.1.1:Int))],x.2.G++(d.ba,cel 3 (Zp x.1.1.2.1++d.J))::H,R⟩) (fun x=>d.y.days+1-x.1.1.1) ⟨⟨(0,A0,[]),Nat.zero_le _,hf0,BndOk.nil _ _⟩,OSl.nil _ _⟩ ?_ (fun x=>?_)
 exact Ze idH
 obtain ⟨⟨⟨t,A,L⟩,ht,hf,hL⟩,o⟩:=x
 dsimp only at ht hf hL o ⊢
 refine sqt 1 rfl (pur 1 rfl (Z0 ?_))
 refine Z1 rfl ?_ ?_<;>intro hc0<;>try simp only [cS] at hc0
 have hLl:=hL.1
 refine Z2 (Z0 (Z3 (sqt 2 rfl (pur 2 rfl (sqt 6 rfl (pur 3 rfl ?_))))))
 refine clV rfl Zjp rfl rfl (Zgp d.y d.a1 d.a2 d.a3 d.k1 d.k2 d.k3 hy d.bd b t (by omega) (by omega) _ _ (DKp.fact (sz:=6) (row:=d.l) (x:=[_,_]) rfl)) ?_
 refine alc rfl zl3 rfl (fun b7=>?_)
 refine ZB (l':=[.int .i64 ((b*(d.y.days+1)+t:Nat):Int)]) rfl rfl rfl cn3 rfl rfl rfl rfl (nl rfl) ?_
 refine Sy.heap (H':=(d.ba,cel 3 (Zp A++d.J))::(o.G++H)) (R':=RowsA (some ⟨b7,0,none⟩) 1 [[.int .i64 ((b*(d.y.days+1)+t:Nat):Int)]]::R) (fun w h=>(St.row1 h rfl).perm List.perm_middle) ?_
 refine sqr 7 rfl (pur 2 rfl (sp rfl (PE.makeFunc rfl rfl) rfl ?_))
 refine cl rfl Zjo rfl rfl (Zgv d hy A hf 131 [] [.pointer (some ⟨b7,0,none⟩)] (Zdb (b*(d.y.days+1)+t)) [RowsA (some ⟨b7,0,none⟩) 1 [[.int .i64 ((b*(d.y.days+1)+t:Nat):Int)]]] ZgJ (fun i H R hs=>by haveI:MemRows (some ⟨b7,0,none⟩) 1 [[.int .i64 ((b*(d.y.days+1)+t:Nat):Int)]] R:=⟨Zfs hs (by simp)⟩;exact Z9O b7 (b*(d.y.days+1)+t) i H R) _ _) ?_
 rintro _ _ _ ⟨A2,s9,hf2,hs9,rfl,rfl,rfl⟩
 refine Sy.heap (fun w h=>St.ftail h) ?_
 refine bsl (out:=[_,_]) rfl ZkD Zg5 rfl rfl rfl rfl rfl rfl (fun b25=>?_)
 refine apO (o) rfl Zks rfl rfl (ZU (row:=[.int .i64 s9.lo,.int .i64 s9.hi]) rfl) rfl rfl ((by simp only [srl,List.length_cons,List.length_nil];have:=hy.days;omega)) rfl (fun o26=>?_)
 refine pur 1 rfl (sqr 2 rfl (sp rfl (PE.add rfl rfl (by have:=hy.days;omega)) rfl (pur 1 rfl ?_)))
 exact Z7 ⟨⟨(t+1,A2,L++[s9]),by dsimp only;omega,hf2,hL.snoc hs9⟩,o26.cast (by simp [Z14])⟩ (fun w h=>(h.del b25).perm List.perm_middle.symm)
 obtain rfl:t=d.y.days+1:=by omega
 refine Z9 (Za (Za (Zh (sqt 2 rfl (pur 2 rfl (Z5 ?_))))))
 exact rtA rfl rfl rfl ⟨A,L,o,hf,hL,rfl,rfl,rfl⟩ idH
theorem ZeQ (y:Yrd) (a1 a2 a3:Option Addr) (k1 k2 k3:Nat) (hy:y.ok) (b:Nat) (hb:b<y.bins.length) (H:Z8) (R:Z4) [hR1:MemRows a1 3 (Zf y.bins) R] [hR2:MemRows a2 5 (Zn y.moves) R] [hR3:MemRows a3 4 (Zy y.levels) R] :
    FnV Tryz.prog 66 [(y.v a1 a2 a3 k1 k2 k3),.int .i64 (b:Int)] H R (.int .i64 0):=by
 refine Zc Tryz.func66 rfl Tryz.ntmps66 rfl ?_
 refine sqt 2 rfl (bx rfl rfl rfl (fun b2=>pur 1 rfl (sqt 3 rfl (spL rfl rfl (lhA (ydl y a1 a2 a3 k1 k2 k3) Z4P rfl rfl rfl) rfl ?_))))
 refine clV rfl ZdI rfl rfl (Z1P y a1 a2 a3 k1 k2 k3 hy _ _) ?_
 refine pur 1 rfl (Z0 (sqt 8 rfl (pur 3 rfl (Z0U rfl rfl rfl rfl rfl (lhA (ydl y a1 a2 a3 k1 k2 k3) Z4P rfl rfl rfl) rfl (pur 1 rfl ?_)))))
 refine Z9t rfl rfl rfl rfl Zaj rfl rfl (Z5l y a1 a2 a3 k1 k2 k3 (b:Int) (by omega) hy.bins.2 _ _) ?_
 refine pur 2 rfl ?_
 refine Z1 rfl ?_ ?_<;>intro hc0
 exact absurd hc0 (by simp)
 refine Z2 (sqt 2 rfl (pur 2 rfl (Z5 ?_)))
 exact rtA rfl rfl rfl ⟨rfl,rfl,rfl⟩ drp
theorem Z3P (y:Yrd) (a1 a2 a3:Option Addr) (k1 k2 k3:Nat) (hy:y.ok) (hB:∃ B,Feas (y.cells+1) y.flows B) (H:Z8) (R:Z4) [hR1:MemRows a1 3 (Zf y.bins) R] [hR2:MemRows a2 5 (Zn y.moves) R] [hR3:MemRows a3 4 (Zy y.levels) R] :
    Fn Tryz.prog 54 [(y.v a1 a2 a3 k1 k2 k3)] H R (fun v H' R'=>∃ (d:DD) (A:List Int),d.y=y∧Feas (d.y.cells+1) d.y.flows A∧v = .tuple #[.pointer (some ⟨d.bd,0,none⟩),.int .i64 0]∧H'=(d.ba,cel 3 (Zp A++d.J))::H∧R'=RowsA (some ⟨d.fb,0,none⟩) 4 (ZM d.y.flows)::RowsA (some ⟨d.bd,0,none⟩) 6 [d.l]::R):=by
 refine Zc Tryz.func54 rfl Tryz.ntmps54 rfl ?_
 refine sqt 3 rfl (bx rfl rfl rfl (fun b1=>pur 2 rfl (Z0 (sqt 3 rfl (spL rfl rfl (lhA (ydl y a1 a2 a3 k1 k2 k3) Z4P rfl rfl rfl) rfl ?_)))))
 refine clV rfl ZdI rfl rfl (Z1P y a1 a2 a3 k1 k2 k3 hy _ _) ?_
 refine pur 1 rfl (sqt 2 rfl (pur 2 rfl ?_))
 refine Z1 rfl ?_ ?_<;>intro hc0
 exact absurd hc0 (by simp)
 refine Z2 (Z0 ?_)
 refine Zd [0,0,3,7] (.ld 0 (.big 1 (.big 2 (.tk 3 .done)))) Zt (by kernel_rfl) ?_
 refine ld rfl rfl (lhA (ydl y a1 a2 a3 k1 k2 k3) Z4P rfl rfl rfl) rfl ?_
 refine clV rfl Zgz rfl rfl (Zgf _ _) ?_
 refine bg (fun w hs=>⟨(lhA (ydl y a1 a2 a3 k1 k2 k3) Z4P rfl rfl rfl) w hs,trivial⟩) ?_
 refine cl rfl Zgy rfl rfl (Zcx y a1 a2 a3 k1 k2 k3 hy _ _) ?_
 rintro _ _ _ ⟨d,rfl,rfl,rfl,rfl⟩
 refine bgT (Zm 1 rfl (Z0 (sqt 3 rfl (pur 1 rfl ?_))))
 refine cl rfl ZgA rfl rfl (Zct d hy (Z0J d.y.flows) (by simp [Z0J]) (Zfm hB) hB _ _) ?_
 rintro _ _ _ ⟨A,hA,rfl,rfl,rfl⟩
 refine pur 1 rfl ?_
 refine Z1 rfl ?_ ?_<;>intro hc1
 exact absurd hc1 (by simp)
 refine Z2 (sqt 3 rfl (pur 3 rfl (Z5 ?_)))
 exact rtB rfl rfl rfl rfl ⟨d,A,rfl,hA,rfl,rfl,rfl⟩ (fun w h=>h.del b1)
theorem Z7T (y:Yrd) (a1 a2 a3:Option Addr) (k1 k2 k3:Nat) (hy:y.ok) (hB:∃ B,Feas (y.cells+1) y.flows B) (b:Nat) (hb:b<y.bins.length) (H:Z8) (R:Z4) [hR1:MemRows a1 3 (Zf y.bins) R] [hR2:MemRows a2 5 (Zn y.moves) R] [hR3:MemRows a3 4 (Zy y.levels) R] :
    Fn Tryz.prog 26 [(y.v a1 a2 a3 k1 k2 k3),.int .i64 (b:Int)] H R (fun v H' R'=>∃ (L:List Spn) (o:OSl 37 2 (Z14 L)),BndOk y (fun t=>Zdb (b*(y.days+1)+t)) (y.days+1) L∧v = .tuple #[o.fs,.int .i64 0]∧H'=o.G++H∧R'=R):=by
 refine Zc Tryz.func26 rfl Tryz.ntmps26 rfl ?_
 refine sqt 3 rfl (bx rfl rfl rfl (fun b2=>pur 2 rfl (Z0 (sqt 4 rfl (spL rfl rfl (lhA (ydl y a1 a2 a3 k1 k2 k3) Z4P rfl rfl rfl) rfl (pur 1 rfl ?_))))))
 refine clV rfl Zjr rfl rfl (ZeQ y a1 a2 a3 k1 k2 k3 hy b hb _ _) ?_
 refine pur 1 rfl (sqt 2 rfl (pur 2 rfl ?_))
 refine Z1 rfl ?_ ?_<;>intro hc0
 exact absurd hc0 (by simp)
 refine Z2 (sqt 7 rfl (spL rfl rfl (lhA (ydl y a1 a2 a3 k1 k2 k3) Z4P rfl rfl rfl) rfl ?_))
 refine cl rfl Zjn rfl rfl (Z3P y a1 a2 a3 k1 k2 k3 hy hB _ _) ?_
 rintro _ _ _ ⟨d,A,rfl,hA,rfl,rfl,rfl⟩
 refine pur 5 rfl (Z0 (sqt 2 rfl (pur 2 rfl ?_)))
 refine Z1 rfl ?_ ?_<;>intro hc1
 exact absurd hc1 (by simp)
 refine Z2 (sqt 5 rfl (pur 2 rfl ?_))
 refine cl rfl Zjs rfl rfl (Zcm d hy A hA b hb _ _) ?_
 rintro _ _ _ ⟨A2,L,o,hA2,hL,rfl,rfl,rfl⟩
 refine pur 2 rfl (Z5 ?_)
 exact rtB rfl rfl rfl rfl ⟨L,o,hL,rfl,rfl,rfl⟩ (fun w h=>((h.del d.ba).del b2).ftail.ftail)
end Go.Proofs.YtcfdanhklbklkaaGreat.Sk
namespace Go.Proofs.YtcfdanhklbklkaaGreat.Sk
set_option linter.unusedSimpArgs false
set_option linter.unusedVariables false
def Z3F:List SMov→List Int→Int→Int→Int
 | m::mv,a::am,b,t=>((bif decide (m.day<t)&&decide (m.to=b) then a else 0)-(bif decide (m.day<t)&&decide (m.fr=b) then a else 0))+Z3F mv am b t
 | _,_,_,_=>0
def con (fs:List Int) (mv:List SMov) (am:List Int) (b:Nat) (t:Int):Int:=na fs b+Z3F mv am (b:Int) t
theorem Z6i {m:SMov} {n b t:Int}:∀ {mv:List SMov} {am:List Int},am.length=mv.length→Z3F (mv++[m]) (am++[n]) b t=Z3F mv am b t+((bif decide (m.day<t)&&decide (m.to=b) then n else 0)-(bif decide (m.day<t)&&decide (m.fr=b) then n else 0))
 | [],[],_=>by show _+(0:Int)=0+_;omega
 | x::mv,a::am,h=>by
   have ih:=Z6i (m:=m) (n:=n) (b:=b) (t:=t) (mv:=mv) (am:=am) (by simpa using h)
   show _+Z3F (mv++[m]) (am++[n]) b t=(_+Z3F mv am b t)+_
   rw [ih];omega
theorem Z6j {b t:Int}:∀ {mv:List SMov} {am:List Int} {i:Nat} {m:SMov},am.length=mv.length→mv[i]?=some m→Z3F (mv.take (i+1)) am b t=Z3F (mv.take i) am b t+((bif decide (m.day<t)&&decide (m.to=b) then na am i else 0)-(bif decide (m.day<t)&&decide (m.fr=b) then na am i else 0))
 | [],_,i,m,_,h=>by simp at h
 | x::mv,[],i,m,hl,_=>by simp at hl
 | x::mv,a::am,0,m,hl,h=>by
   simp only [List.getElem?_cons_zero,Option.some.injEq] at h
   subst h
   rw [List.take_zero]
   show _+Z3F (mv.take 0) am b t=0+_
   rw [List.take_zero]
   show _+(0:Int)=0+((bif decide (x.day<t)&&decide (x.to=b) then a else 0)-(bif decide (x.day<t)&&decide (x.fr=b) then a else 0))
   omega
 | x::mv,a::am,i+1,m,hl,h=>by
   have ih:=Z6j (b:=b) (t:=t) (mv:=mv) (am:=am) (i:=i) (m:=m) (by simpa using hl) (by simpa using h)
   show _+Z3F (mv.take (i+1)) am b t=(_+Z3F (mv.take i) am b t)+((bif decide (m.day<t)&&decide (m.to=b) then na am i else 0)-(bif decide (m.day<t)&&decide (m.fr=b) then na am i else 0))
   rw [ih];omega
theorem ZaE {K b t:Int} (hK:0≤K):∀ {mv:List SMov} {am:List Int},(∀ i,0≤na am i∧na am i≤K) → -(K*(mv.length:Int))≤Z3F mv am b t∧Z3F mv am b t≤K*(mv.length:Int)
 | [],am,_=>by cases am<;>exact ⟨by show _≤(0:Int);simp,by show (0:Int)≤_;simp⟩
 | m::mv,[],_=>by
   have h:0≤K*((m::mv).length:Int):=Int.mul_nonneg hK (by omega)
   exact ⟨by show _≤(0:Int);omega,by show (0:Int)≤_;omega⟩
 | m::mv,a::am,h=>by
   have ih:=ZaE (b:=b) (t:=t) hK (mv:=mv) (am:=am) (fun i=>h (i+1))
   have h0:0≤a∧a≤K:=h 0
   rw [List.length_cons,show ((mv.length+1:Nat):Int)=(mv.length:Int)+1 by omega,Int.mul_add,Int.mul_one]
   show _≤((bif decide (m.day<t)&&decide (m.to=b) then a else 0)-(bif decide (m.day<t)&&decide (m.fr=b) then a else 0))+Z3F mv am b t∧((bif decide (m.day<t)&&decide (m.to=b) then a else 0)-(bif decide (m.day<t)&&decide (m.fr=b) then a else 0))+Z3F mv am b t≤_
   cases decide (m.day<t)&&decide (m.to=b)<;>cases decide (m.day<t)&&decide (m.fr=b)<;>simp only [cond_true,cond_false]<;>omega
theorem Z6h {b D:Int}:∀ {mv:List SMov} {am:List Int},(∀ m∈mv,m.day≤D)→∀ t,D+1≤t→Z3F mv am b t=Z3F mv am b (D+1)
 | [],am,_,t,_=>by cases am<;>rfl
 | m::mv,[],_,t,_=>rfl
 | m::mv,a::am,h,t,ht=>by
   have ih:=Z6h (b:=b) (mv:=mv) (am:=am) (fun x hx=>h x (by simp [hx])) t ht
   have h0:=h m (by simp)
   show ((bif decide (m.day<t)&&decide (m.to=b) then a else 0)-(bif decide (m.day<t)&&decide (m.fr=b) then a else 0))+Z3F mv am b t=((bif decide (m.day<D+1)&&decide (m.to=b) then a else 0)-(bif decide (m.day<D+1)&&decide (m.fr=b) then a else 0))+Z3F mv am b (D+1)
   rw [ih,decide_eq_true (show m.day<t by omega),decide_eq_true (show m.day<D+1 by omega)]
theorem Z6k {b:Int}:∀ {mv:List SMov} {am:List Int},(∀ m∈mv,0≤m.day)→Z3F mv am b 0=0
 | [],am,_=>by cases am<;>rfl
 | m::mv,[],_=>rfl
 | m::mv,a::am,h=>by
   have ih:=Z6k (b:=b) (mv:=mv) (am:=am) (fun x hx=>h x (by simp [hx]))
   have h0:=h m (by simp)
   show ((bif decide (m.day<0)&&decide (m.to=b) then a else 0)-(bif decide (m.day<0)&&decide (m.fr=b) then a else 0))+Z3F mv am b 0=0
   rw [ih,decide_eq_false (show ¬ m.day<0 by omega)];rfl
structure Mok (y:Yrd) (fs am:List Int):Prop where
 fl:fs.length=y.bins.length
 al:am.length=y.moves.length
 fst:∀ b x,y.bins[b]?=some x→x.fst.lo≤na fs b∧na fs b≤x.fst.hi
 mov:∀ i m,y.moves[i]?=some m→m.s.lo≤na am i∧na am i≤m.s.hi
 con:∀ (b:Nat) x (t:Int),y.bins[b]?=some x→0≤t→t≤y.days→0≤con fs y.moves am b t∧con fs y.moves am b t≤x.holds
 lev:∀ l∈y.levels,l.s.lo≤Sk.con fs y.moves am l.bin.toNat l.day∧Sk.con fs y.moves am l.bin.toNat l.day≤l.s.hi
theorem Z5p {d b t b0 t0:Nat} (ht:t<d) (h0:t0<d):b*d+t=b0*d+t0↔b=b0∧t=t0:=by
 constructor
 · intro h
   have h1:(b*d+t) / d=(b0*d+t0) / d:=by rw [h]
   have h2:(b*d+t)%d=(b0*d+t0)%d:=by rw [h]
   rw [Nat.mul_comm b,Nat.mul_comm b0,Nat.mul_add_div (by omega),Nat.mul_add_div (by omega),Nat.div_eq_of_lt ht,Nat.div_eq_of_lt h0] at h1
   rw [Nat.mul_comm b,Nat.mul_comm b0,Nat.mul_add_mod,Nat.mul_add_mod,Nat.mod_eq_of_lt ht,Nat.mod_eq_of_lt h0] at h2
   omega
 · rintro ⟨rfl,rfl⟩;rfl
theorem Zay {y:Yrd} {b t:Nat} (hb:b<y.bins.length) (ht:t<y.days):b*y.days+t<y.cells:=by
 unfold Yrd.cells
 have:(b+1)*y.days≤y.bins.length*y.days:=Nat.mul_le_mul_right _ hb
 rw [Nat.succ_mul] at this;omega
theorem Z8A {y:Yrd} {g:Nat→Int} {b b0 t0:Nat} (h0:b0<y.bins.length) (ht0:t0<y.days):∀ m,m≤y.days+1→ovr ((List.range m).map (y.keptF b (y.binD b))) ((List.range m).map g) (b0*y.days+t0)=if b=b0 then (if t0<m then g t0 else 0)-(if t0+1<m then g (t0+1) else 0) else 0
 | 0,_=>by
   rw [List.range_zero,List.map_nil,List.map_nil,if_neg (show ¬ t0<0 by omega),if_neg (show ¬ t0+1<0 by omega)]
   show (0:Int)=_
   split<;>rfl
 | m+1,hm=>by
   have ih:=Z8A (g:=g) (b:=b) h0 ht0 m (by omega)
   obtain ⟨e1,e2⟩:=Z2b b m y.levels (y.base b m (y.binD b))
   have hcl:=Zay h0 ht0
   rw [List.range_succ,List.map_append,List.map_append,Z3i (by simp),ih,List.map_singleton,List.map_singleton]
   show _+(((bif decide ((y.keptF b (y.binD b) m).to=b0*y.days+t0) then g m else 0)-(bif decide ((y.keptF b (y.binD b) m).fr=b0*y.days+t0) then g m else 0))+0)=_
   unfold Yrd.keptF
   rw [e1,e2]
   have hto:((y.base b m (y.binD b)).to=b0*y.days+t0)↔(b=b0∧m=t0):=by
     unfold Yrd.base
     by_cases h:m<y.days
     · rw [decide_eq_true h];exact Z5p h ht0
     · rw [decide_eq_false h]
       show y.cells=_↔_
       constructor
       · intro e;omega
       · rintro ⟨_,e⟩;omega
   have hfr:((y.base b m (y.binD b)).fr=b0*y.days+t0)↔(b=b0∧m=t0+1):=by
     unfold Yrd.base
     by_cases h:0<m
     · rw [decide_eq_true h]
       show b*y.days+(m-1)=_↔_
       rw [Z5p (by omega) ht0];omega
     · rw [decide_eq_false h]
       show y.cells=_↔_
       constructor
       · intro e;omega
       · rintro ⟨_,e⟩;omega
   rw [decide_eq_decide.2 hto,decide_eq_decide.2 hfr]
   by_cases e:b=b0
   · subst e
     rw [if_pos rfl,if_pos rfl]
     by_cases h1:m=t0
     · subst h1
       rw [decide_eq_true (show b=b∧m=m from ⟨rfl,rfl⟩),decide_eq_false (show ¬ (b=b∧m=m+1) by omega),if_neg (show ¬ m<m by omega),if_neg (show ¬ m+1<m by omega),if_pos (show m<m+1 by omega),if_neg (show ¬ m+1<m+1 by omega)]
       simp only [cond_true,cond_false];omega
     · by_cases h2:m=t0+1
       · subst h2
         rw [decide_eq_false (show ¬ (b=b∧t0+1=t0) by omega),decide_eq_true (show b=b∧t0+1=t0+1 from ⟨rfl,rfl⟩),if_pos (show t0<t0+1 by omega),if_neg (show ¬ t0+1<t0+1 by omega),if_pos (show t0<t0+1+1 by omega),if_pos (show t0+1<t0+1+1 by omega)]
         simp only [cond_true,cond_false];omega
       · rw [decide_eq_false (fun h=>h1 h.2),decide_eq_false (fun h=>h2 h.2)]
         simp only [cond_false]
         by_cases h3:t0<m
         · rw [if_pos h3,if_pos (show t0<m+1 by omega),if_pos (show t0+1<m by omega),if_pos (show t0+1<m+1 by omega)];omega
         · rw [if_neg h3,if_neg (show ¬ t0<m+1 by omega),if_neg (show ¬ t0+1<m by omega),if_neg (show ¬ t0+1<m+1 by omega)];omega
   · rw [if_neg e,if_neg e,decide_eq_false (fun h=>e h.1),decide_eq_false (fun h=>e h.1)];rfl
def Z9u (y:Yrd) (g:Nat→Nat→Int):Nat→List Int
 | 0=>[]
 | k+1=>Z9u y g k++(List.range (y.days+1)).map (g k)
theorem Z1b (y:Yrd) (g:Nat→Nat→Int):∀ k,(Z9u y g k).length=k*(y.days+1)
 | 0=>by rw [Nat.zero_mul];rfl
 | k+1=>by unfold Z9u;rw [List.length_append,Z1b y g k,List.length_map,List.length_range,Nat.succ_mul]
theorem Zbb {y:Yrd} {g:Nat→Nat→Int} {b t:Nat} (ht:t≤y.days):∀ {k},b<k→na (Z9u y g k) (b*(y.days+1)+t)=g b t
 | k+1,hb=>by
   unfold Z9u
   by_cases e:b=k
   · subst e
     rw [show b*(y.days+1)+t=(Z9u y g b).length+t by rw [Z1b],Z4q]
     unfold na
     rw [List.getD_eq_getElem?_getD,List.getElem?_map,List.getElem?_range (by omega)];rfl
   · rw [Z4p (by rw [Z1b];exact Z1V (by omega) ht)]
     exact Zbb ht (by omega)
theorem Z6H {y:Yrd} {g:Nat→Nat→Int} {b0 t0:Nat} (h0:b0<y.bins.length) (ht0:t0<y.days):∀ k,ovr (y.keptN k) (Z9u y g k) (b0*y.days+t0)=if b0<k then g b0 t0-g b0 (t0+1) else 0
 | 0=>by rw [if_neg (by omega)];rfl
 | k+1=>by
   have ih:=Z6H (g:=g) h0 ht0 k
   rw [Z59]
   unfold Z9u
   rw [Z3i (by rw [Z1b,Zs]),ih]
   unfold Yrd.keptB
   rw [Z8A (b:=k) h0 ht0 (y.days+1) (Nat.le_refl _),if_pos (show t0<y.days+1 by omega),if_pos (show t0+1<y.days+1 by omega)]
   by_cases e:k=b0
   · subst e;rw [if_neg (show ¬ k<k by omega),if_pos rfl,if_pos (show k<k+1 by omega)];omega
   · rw [if_neg e]
     by_cases h:b0<k
     · rw [if_pos h,if_pos (show b0<k+1 by omega)];omega
     · rw [if_neg h,if_neg (show ¬ b0<k+1 by omega)];omega
theorem Z8B {y:Yrd} {b0 t0:Nat} (h0:b0<y.bins.length) (ht0:t0<y.days):∀ {mv:List SMov} {am:List Int},(∀ m∈mv,(0≤m.day∧m.day<y.days)∧(-1≤m.fr∧m.fr<y.bins.length)∧(-1≤m.to∧m.to<y.bins.length))→ovr (mv.map y.movF) am (b0*y.days+t0)=Z3F mv am (b0:Int) ((t0:Int)+1)-Z3F mv am (b0:Int) (t0:Int)
 | [],am,_=>by cases am<;>rfl
 | m::mv,[],_=>rfl
 | m::mv,a::am,h=>by
   have ih:=Z8B h0 ht0 (mv:=mv) (am:=am) (fun x hx=>h x (by simp [hx]))
   obtain ⟨hd,hf,ht⟩:=h m (by simp)
   have hcl:=Zay h0 ht0
   have key:∀ x:Int,(-1≤x∧x<y.bins.length)→(y.cell x m.day.toNat=b0*y.days+t0↔(x=(b0:Int)∧m.day=(t0:Int))):=fun x hx=>by
     unfold Yrd.cell
     by_cases e:x = -1
     · rw [decide_eq_true e]
       show y.cells=_↔_
       constructor
       · intro e;omega
       · rintro ⟨e2,_⟩;omega
     · rw [decide_eq_false e]
       show x.toNat*y.days+m.day.toNat=_↔_
       rw [Z5p (by omega) ht0];omega
   show ((bif decide (y.cell m.to m.day.toNat=b0*y.days+t0) then a else 0)-(bif decide (y.cell m.fr m.day.toNat=b0*y.days+t0) then a else 0))+ovr (mv.map y.movF) am (b0*y.days+t0)
     = (((bif decide (m.day<(t0:Int)+1)&&decide (m.to=(b0:Int)) then a else 0)-(bif decide (m.day<(t0:Int)+1)&&decide (m.fr=(b0:Int)) then a else 0))+Z3F mv am (b0:Int) ((t0:Int)+1))
     - (((bif decide (m.day<(t0:Int))&&decide (m.to=(b0:Int)) then a else 0)-(bif decide (m.day<(t0:Int))&&decide (m.fr=(b0:Int)) then a else 0))+Z3F mv am (b0:Int) (t0:Int))
   rw [ih,decide_eq_decide.2 (key m.to ht),decide_eq_decide.2 (key m.fr hf)]
   have split:∀ x:Int,(bif decide (x=(b0:Int)∧m.day=(t0:Int)) then a else 0)=(bif decide (m.day<(t0:Int)+1)&&decide (x=(b0:Int)) then a else 0)-(bif decide (m.day<(t0:Int))&&decide (x=(b0:Int)) then a else 0):=fun x=>by
     by_cases e:x=(b0:Int)
     · rw [decide_eq_true e,Bool.and_true,Bool.and_true]
       by_cases h1:m.day=(t0:Int)
       · rw [decide_eq_true ⟨e,h1⟩,decide_eq_true (show m.day<(t0:Int)+1 by omega),decide_eq_false (show ¬ m.day<(t0:Int) by omega)]
         simp only [cond_true,cond_false];omega
       · rw [decide_eq_false (fun h=>h1 h.2)]
         by_cases h2:m.day<(t0:Int)
         · rw [decide_eq_true h2,decide_eq_true (show m.day<(t0:Int)+1 by omega)];simp only [cond_true,cond_false];omega
         · rw [decide_eq_false h2,decide_eq_false (show ¬ m.day<(t0:Int)+1 by omega)];simp only [cond_false];omega
     · rw [decide_eq_false e,Bool.and_false,Bool.and_false,decide_eq_false (fun h=>e h.1)];rfl
   rw [split m.to,split m.fr]
   omega
theorem Zbc {b t:Nat} {v:Int}:∀ (ls:List SLev) (f:Fl),f.lo≤v∧v≤f.hi→(∀ l∈ls,l.bin=(b:Int)→l.day=(t:Int)→l.s.lo≤v∧v≤l.s.hi)→(ls.foldl (Z0B b t) f).lo≤v∧v≤(ls.foldl (Z0B b t) f).hi
 | [],f,h,_=>h
 | l::ls,f,h,hl=>by
   rw [List.foldl_cons]
   refine Zbc ls _ ?_ (fun x hx=>hl x (by simp [hx]))
   unfold Z0B
   by_cases e1:l.bin=(b:Int)
   · by_cases e2:l.day=(t:Int)
     · have:=hl l (by simp) e1 e2
       rw [decide_eq_true e1,decide_eq_true e2]
       show max f.lo l.s.lo≤v∧v≤min f.hi l.s.hi
       omega
     · rw [decide_eq_false e2,Bool.and_false];exact h
   · rw [decide_eq_false e1,Bool.false_and];exact h
theorem Zd1 {y:Yrd} (hy:y.ok) {fs am:List Int} (h:Mok y fs am):∃ B,Feas (y.cells+1) y.flows B:=by
 have hF:∀ f∈y.flows,f.fr<y.cells+1∧f.to<y.cells+1:=fun g hg=>(Z0c hy g hg).1
 have hlen:(Z9u y (fun b t=>con fs y.moves am b t) y.bins.length++am).length=y.flows.length:=by
   rw [List.length_append,Z1b,h.al,Z1p];rfl
 have hd0:∀ m∈y.moves,0≤m.day:=fun m hm=>(hy.mov m hm).1.1
 have hz:∀ c,c<y.cells→ovr y.flows (Z9u y (fun b t=>con fs y.moves am b t) y.bins.length++am) c=0:=fun c hc=>by
   have hdp:0<y.days:=by have:=hy.days;omega
   have hb:c / y.days<y.bins.length:=Nat.div_lt_of_lt_mul (by unfold Yrd.cells at hc;rw [Nat.mul_comm];exact hc)
   have ht:c%y.days<y.days:=Nat.mod_lt _ hdp
   have e:c=(c / y.days)*y.days+c%y.days:=by rw [Nat.mul_comm];exact (Nat.div_add_mod c y.days).symm
   rw [e]
   generalize c / y.days=b0 at hb ⊢
   generalize c%y.days=t0 at ht ⊢
   unfold Yrd.flows
   rw [Z3i (by rw [Z1b,Zs]),Z6H hb ht,if_pos hb,Z8B hb ht (fun m hm=>⟨(hy.mov m hm).1,(hy.mov m hm).2.1,(hy.mov m hm).2.2.1⟩)]
   show con fs y.moves am b0 ((t0:Nat):Int)-con fs y.moves am b0 (((t0+1:Nat)):Int)+_=0
   unfold con
   rw [show ((t0+1:Nat):Int)=(t0:Int)+1 by omega]
   omega
 refine ⟨_,hlen,fun i f hi=>?_,fun c hc=>?_⟩
 · rcases Z0Z hi with ⟨b,t,hb,ht,rfl,rfl⟩ | ⟨j,m,hm,rfl,rfl⟩
   · have hx:y.bins[b]?=some (y.binD b):=by unfold Yrd.binD;rw [List.getD_eq_getElem?_getD,List.getElem?_eq_getElem hb];rfl
     rw [Z4p (by rw [Z1b];exact Z1V hb ht),Zbb ht hb]
     have hc:=h.con b _ (t:Int) hx (by omega) (by omega)
     refine Zbc y.levels _ ?_ (fun l hl e1 e2=>?_)
     · have hs:=h.fst b _ hx
       unfold Yrd.base
       by_cases e:0<t
       · rw [decide_eq_true e];exact hc
       · rw [decide_eq_false e]
         obtain rfl:t=0:=by omega
         have h0:con fs y.moves am b ((0:Nat):Int)=na fs b:=by unfold con;rw [show ((0:Nat):Int)=0 from rfl,Z6k hd0];omega
         rw [h0] at hc ⊢
         show max 0 (y.binD b).fst.lo≤na fs b∧na fs b≤min (y.binD b).holds (y.binD b).fst.hi
         omega
     · have:=h.lev l hl
       rw [e1,e2] at this
       simpa using this
   · show m.s.lo≤_∧_≤m.s.hi
     rw [show y.bins.length*(y.days+1)+j=(Z9u y (fun b t=>con fs y.moves am b t) y.bins.length).length+j by rw [Z1b],Z4q]
     exact h.mov j m hm
 · by_cases e:c<y.cells
   · exact hz c e
   · obtain rfl:c=y.cells:=by omega
     have h1:=Z5J (A:=Z9u y (fun b t=>con fs y.moves am b t) y.bins.length++am) hF
     rw [Z4E (k:=y.cells) (by omega) (fun q hq hne=>hz q (by omega))] at h1
     exact h1
theorem ZcJ {fs am:List Int} {mv:List SMov} {m:SMov} {n:Int} {nb:Nat} (hl:am.length=mv.length) (hd:∀ x∈mv,x.day≤m.day) (h:∀ b:Nat,b<nb→∀ t:Int,0≤t→0≤con fs mv am b t∧con fs mv am b t≤300) (hm0:0≤m.day) (hne:m.fr≠m.to) (hn:0≤n)
   (hf:∀ b:Nat,b<nb→m.fr=(b:Int)→n≤con fs mv am b (m.day+1)) (ht:∀ b:Nat,b<nb→m.to=(b:Int)→n≤300-con fs mv am b (m.day+1)):∀ b:Nat,b<nb→∀ t:Int,0≤t→0≤con fs (mv++[m]) (am++[n]) b t∧con fs (mv++[m]) (am++[n]) b t≤300:=fun b hb t ht0=>by
 have h0:=h b hb t ht0
 unfold con at h0 ⊢
 rw [Z6i hl]
 by_cases e:m.day<t
 · have hlt:=Z6h (b:=(b:Int)) (am:=am) hd t (by omega)
   have h1:=hf b hb
   have h2:=ht b hb
   unfold con at h1 h2
   rw [← hlt] at h1 h2
   rw [decide_eq_true e,Bool.true_and,Bool.true_and]
   by_cases e1:m.to=(b:Int)
   · rw [decide_eq_true e1,decide_eq_false (show ¬ m.fr=(b:Int) by omega)]
     have:=h2 e1
     simp only [cond_true,cond_false];omega
   · rw [decide_eq_false e1]
     by_cases e2:m.fr=(b:Int)
     · have:=h1 e2
       rw [decide_eq_true e2];simp only [cond_true,cond_false];omega
     · rw [decide_eq_false e2];simp only [cond_false];omega
 · rw [decide_eq_false e,Bool.false_and,Bool.false_and];simp only [cond_false];omega
open Go
theorem Zc5:Z2q Tryz.prog 89=some 2:=by kernel_rfl
theorem ZgB:cal Tryz.prog 118=true:=by kernel_rfl
theorem Z2L:cal Tryz.prog 21=true:=by kernel_rfl
theorem Zjm:cal Tryz.prog 53=true:=by kernel_rfl
theorem Z93:cal Tryz.prog 59=true:=by kernel_rfl
theorem Zf2:ZJ Tryz.prog 109=some 1:=by kernel_rfl
theorem ZkB:elN Tryz.prog 22=some 1:=by kernel_rfl
theorem Z5y:Z0m Tryz.prog 111 0=some 0:=by kernel_rfl
theorem Z2y:Z0m Tryz.prog 111 1=some 1:=by kernel_rfl
theorem Z0t:Z0m Tryz.prog 111 2=some 2:=by kernel_rfl
theorem ZaW:Z0m Tryz.prog 89 0=some 0:=by kernel_rfl
theorem Z4j:Z0m Tryz.prog 89 1=some 1:=by kernel_rfl
theorem ZcT:Zb3 Tryz.prog 109=some .u32:=by kernel_rfl
theorem ik3:Zb3 Tryz.prog 3=some .i64:=by kernel_rfl
theorem Z9b:Z3G Tryz.prog 22=true:=by kernel_rfl
theorem ZfF:Z00 Tryz.prog 111=some [(0,1),(1,1),(2,1)]:=by kernel_rfl
theorem Z4w:Z17 Tryz.prog 109=true:=by kernel_rfl
theorem ZiP:Z17 Tryz.prog 22=true:=by kernel_rfl
theorem sc5:Z17 Tryz.prog 5=true:=by kernel_rfl
theorem Zdq:(Tryz.prog.underlying 109).isSome=true:=by kernel_rfl
theorem us3:(Tryz.prog.underlying 3).isSome=true:=by kernel_rfl
theorem us5:(Tryz.prog.underlying 5).isSome=true:=by kernel_rfl
theorem ZfY:ZD Tryz.prog 111=some ([.slice none 0 0,.int .i64 0,.int .u32 0]):=by kernel_rfl
def RdR (a:Option Addr) (sz:Nat) (rows:List (List Value)) (H:Z8) (R:Z4):Prop:=∀ w,St H R w→RowsA a sz rows w
theorem RdR.t {a:Option Addr} {sz:Nat} {rows:List (List Value)} {H:Z8} {R:Z4} {p:Nat×Obj} (h:RdR a sz rows H R):RdR a sz rows (p::H) R:=fun w hs=>h w hs.tail
theorem RdR.own {e sz:Nat} {rows:List (List Value)} (o:OSl e sz rows) {H:Z8} {R:Z4} {C:Z8→Z8} [rp:RepF o.G H C] {a:Option Addr} {n c:Nat} (he:o.fs = .slice a n c):RdR a sz rows H R:=fun w hs=>by
 obtain ⟨T,p1,_⟩:=rp.rep
 obtain ⟨a',c',e1,hf⟩:=o.freeze
 rw [he] at e1
 cases e1
 exact (hf (hs.perm p1)).now (by simp)
theorem RdR.fact {a:Option Addr} {sz:Nat} {rows:List (List Value)} {H:Z8} {R:Z4} [m:MemRows a sz rows R]:RdR a sz rows H R:=fun w hs=>hs.now m.mem
theorem RdR.held {b e sz:Nat} {rows:List (List Value)} {junk:List Value} {H:Z8} {R:Z4} [m:Mem1 b (cel e (rows.flatten++junk)) H] (hs:∀ r∈rows,r.length=sz):RdR (some ⟨b,0,none⟩) sz rows H R:=fun w h=>fun i row hi=>by
 refine ⟨hs row (List.mem_of_getElem? hi),b,0,rfl,fun j x hx=>?_⟩
 rw [Z1x (h.held _ m.mem),Nat.zero_add]
 have h1:=Z3R hs hi hx
 simp only [List.getElem?_toArray]
 rw [List.getElem?_append_left (List.getElem?_eq_some_iff.1 h1).1];exact h1
theorem ZbO {n:Nat} {L:Zk} {D:List Deferred} {H:Z8} {R:Z4} {X:Act→World→Prop} {a:Option Addr} {sz:Nat} {rows:List (List Value)} (hR:RdR a sz rows H R) (h0:rows≠[]) (h:∀ b off,a=some ⟨b,off,none⟩→Sy n L D H R X):Sy n L D H R X :=
 Sy.pre (p:=∃ b off,a=some ⟨b,off,none⟩) (fun w hs=>Z1Y (hR w hs) h0) (fun ⟨b,off,e⟩=>h b off e)
theorem lR0 {P:Program} {T b off sz i:Nat} {rows:List (List Value)} {row:List Value} {x:Value} {H:Z8} {R:Z4} (h:RdR (some ⟨b,off,none⟩) sz rows H R) (hT:Z17 P T=true) (hr:rows[i]?=some row) (hx:row[0]?=some x):∀ w,St H R w→Ld P T ⟨b,off+i*sz,none⟩ x w:=fun w hs=>Z35 hT (by have:=Z0L (h w hs) hr hx;simpa using this)
theorem lRA {P:Program} {T b off sz i k:Nat} {rows:List (List Value)} {row:List Value} {H:Z8} {R:Z4} (h:RdR (some ⟨b,off,none⟩) sz rows H R) (hT:Z2q P T=some k) (hr:rows[i]?=some row) (hk:row.length=k):∀ w,St H R w→Ld P T ⟨b,off+i*sz,none⟩ (.agg row.toArray) w:=fun w hs=>Z9A (by rw [hT,hk]) (fun j v hv=>Z0L (h w hs) hr hv)
def amv (a b:Value):Value:=.agg #[a,b]
theorem Z8x {l:List Int} {K:Int} (hK:0≤K) (h:∀ v∈l,0≤v∧v≤K):∀ i,0≤na l i∧na l i≤K:=fun i=>by
 by_cases e:i<l.length
 · exact h _ (List.mem_of_getElem? (ZR e))
 · rw [Z7s (by omega)];omega
def urow (x:Int):List Value:=[.int .u8 x]
def Z4U (l:List Int):List (List Value):=l.map urow
theorem ZdA (g:List Int) (ag:Option Addr) (cg:Nat) (hgl:g.length≤9223372036854775807) (H:Z8) (R:Z4) :
    Fn Tryz.prog 7 [.slice ag g.length cg] H R (fun v H' R'=>∃ bk,∃ mx:Int,(0≤mx∧mx≤4294967295)∧v = .pointer (some ⟨bk,0,none⟩)∧H'=(bk,cel 111 [.slice ag g.length cg,.int .i64 (0),.int .u32 (mx)])::H∧R'=R):=by
 refine Zc Tryz.func7 rfl Tryz.ntmps7 rfl ?_
 refine sqt 1 rfl (pur 1 rfl (sqt 8 rfl (pur 2 rfl (sp rfl (PE.lenSl Z9b rfl) rfl ?_))))
 refine spE rfl (PE.convU us3 ZcT rfl) rfl ?_
 rintro _ ⟨u6,rfl,hu6⟩
 refine spE rfl (PE.xorU rfl rfl) rfl ?_
 rintro _ ⟨u7,rfl,hu7⟩
 refine sp rfl (PE.build (out:=[_,_,_]) ZfF ZfY rfl rfl) rfl (bx rfl rfl rfl (fun b9=>pur 1 rfl (Z5 ?_)))
 exact rtA rfl rfl rfl ⟨b9,u7,hu7,rfl,rfl,rfl⟩ idH
theorem Z9Y (g:List Int) (ag:Option Addr) (cg bk:Nat) (hgl:g.length≤9223372036854775807) (tq mx:Int) (htq:0≤tq∧tq≤1000000000) (hmx:0≤mx∧mx≤4294967295) (H:Z8) (R:Z4) [hG:MemRows ag 1 (Z4U g) R] :
    Fn Tryz.prog 53 [.pointer (some ⟨bk,0,none⟩)] ((bk,cel 111 [.slice ag g.length cg,.int .i64 (tq),.int .u32 (mx)])::H) R (fun v H' R'=>∃ x m':Int,(0≤x∧x≤65535)∧v = .int .i64 x∧(0≤m'∧m'≤4294967295)∧H'=(bk,cel 111 [.slice ag g.length cg,.int .i64 (tq+1),.int .u32 (m')])::H∧R'=R):=by
 refine Zc Tryz.func53 rfl Tryz.ntmps53 rfl ?_
 refine sqt 1 rfl (pur 1 rfl (Z0 (sqt 6 rfl (pur 1 rfl (sp rfl (PE.nilCheck rfl) rfl (sp rfl (PE.fA Z5y rfl) rfl (spL rfl rfl (lh ZiP rfl rfl) rfl (sp rfl (PE.lenSl Z9b rfl) rfl (pur 1 rfl (sqt 2 rfl (pur 2 rfl ?_)))))))))))
 refine Z1 rfl ?_ ?_<;>intro hc0<;>try simp only [cS] at hc0
 obtain ⟨y,hy⟩:∃ y,g[(tq%g.length).toNat]?=some y:=⟨_,List.getElem?_eq_getElem (by have:=Int.emod_lt_of_pos tq hc0;have:=Int.emod_nonneg tq (show (g.length:Int)≠0 by omega);omega)⟩
 refine Zi (a:=ag) (sz:=1) (rows:=Z4U g) (by intro h0;simp [Z4U] at h0;simp [h0] at hy) (fun bgr ogr he=>?_)
 subst he
 refine Zd [0,0,2,6,14,0,32,96,224,0,512,1536,3584,0,15872,32736,65504,131040,262142,524286,1048575,2097151,4194303] (tks 0 4 (.ld 4 (tks 5 3 (.ld 8 (tks 9 3 (.ld 12 (tks 13 3 (.ld 16 (tks 17 5 (.big 22 .done)))))))))) Zt (by kernel_rfl) ?_
 refine Zm 2 rfl (tk rfl (PE.nilCheck rfl) rfl (tk rfl (PE.fA Z0t rfl) rfl (ld rfl rfl (lh Z4w rfl rfl) rfl (Zm 1 rfl (tk rfl (PE.nilCheck rfl) rfl (tk rfl (PE.fA Z5y rfl) rfl (ld rfl rfl (lh ZiP rfl rfl) rfl (Zm 1 rfl (tk rfl (PE.nilCheck rfl) rfl (tk rfl (PE.fA Z2y rfl) rfl (ld rfl rfl (lh sc3 rfl rfl) rfl (Zm 1 rfl (tk rfl (PE.rem rfl rfl (by omega)) rfl (tk rfl (PE.indexAddr ZkB rfl rfl (by exact Int.emod_nonneg tq (by omega)) (by exact Int.emod_lt_of_pos tq hc0)) rfl (ld rfl rfl (lf0 (x:=.int .u8 y) sc5 (by simp [Z4U,urow,hy];rfl) rfl) rfl ?_)))))))))))))))
 refine tkE rfl (PE.convU us5 ZcT rfl) rfl ?_
 rintro _ ⟨u28,rfl,hu28⟩
 refine tkE rfl (PE.xorU rfl rfl) rfl ?_
 rintro _ ⟨u29,rfl,hu29⟩
 refine tkE rfl (PE.mulU rfl rfl) rfl ?_
 rintro _ ⟨u30,rfl,hu30⟩
 refine tk rfl (PE.nilCheck rfl) rfl (tk rfl (PE.fA Z0t rfl) rfl ?_)
 refine sto rfl rfl rfl Zf2 rfl rfl rfl rfl ?_
 refine bgT (sqt 8 rfl (pur 1 rfl (sp rfl (PE.nilCheck rfl) rfl (sp rfl (PE.fA Z2y rfl) rfl (spL rfl rfl (lh sc3 rfl rfl) rfl (sp rfl (PE.add rfl rfl (by omega)) rfl (sp rfl (PE.nilCheck rfl) rfl (sp rfl (PE.fA Z2y rfl) rfl ?_))))))))
 refine sto rfl rfl rfl cn3 rfl rfl rfl rfl ?_
 refine Z0 (Z0 ?_)
 refine Zd [0,1,3,7,0,16,48,112,240,511] (tks 0 3 (.ld 3 (tks 4 3 (.ld 7 (.tk 8 (.tk 9 .done)))))) Zt (by kernel_rfl) ?_
 refine Zm 1 rfl (tk rfl (PE.nilCheck rfl) rfl (tk rfl (PE.fA Z2y rfl) rfl (ld rfl rfl (lh sc3 rfl rfl) rfl (Zm 1 rfl (tk rfl (PE.nilCheck rfl) rfl (tk rfl (PE.fA Z5y rfl) rfl (ld rfl rfl (lh ZiP rfl rfl) rfl (tk rfl (PE.lenSl Z9b rfl) rfl (Zm 1 rfl ?_)))))))))
 refine Z1 rfl ?_ ?_<;>intro hc1<;>try simp only [cS] at hc1
 refine sqr 10 rfl (pur 2 rfl (sp rfl (PE.nilCheck rfl) rfl (sp rfl (PE.fA Z0t rfl) rfl (spL rfl rfl (lh Z4w rfl rfl) rfl ?_))))
 refine spE rfl (PE.mulU rfl rfl) rfl ?_
 rintro _ ⟨u55,rfl,hu55⟩
 refine spE rfl (PE.addU rfl rfl) rfl ?_
 rintro _ ⟨u56,rfl,hu56⟩
 refine sp rfl (PE.nilCheck rfl) rfl (sp rfl (PE.fA Z0t rfl) rfl ?_)
 refine sto rfl rfl rfl Zf2 rfl rfl rfl rfl ?_
 refine Z0 ?_
 refine Zd [0,1,3,7,0,16,48,112,240,511,1023,2047,4095,8191] (tks 0 3 (.ld 3 (tks 4 3 (.ld 7 (tks 8 6 .done))))) Zt (by kernel_rfl) ?_
 refine Zm 1 rfl (tk rfl (PE.nilCheck rfl) rfl (tk rfl (PE.fA Z0t rfl) rfl (ld rfl rfl (lh Z4w rfl rfl) rfl (Zm 1 rfl (tk rfl (PE.nilCheck rfl) rfl (tk rfl (PE.fA Z0t rfl) rfl (ld rfl rfl (lh Z4w rfl rfl) rfl ?_)))))))
 refine tkE rfl (PE.shrU rfl rfl (by decide) (by omega) (by omega)) rfl ?_
 rintro _ ⟨u67,rfl,hu67⟩
 refine tkE rfl (PE.xorU rfl rfl) rfl ?_
 rintro _ ⟨u68,rfl,hu68⟩
 refine tkE rfl (PE.shrU rfl rfl (by decide) (by omega) (by omega)) rfl ?_
 rintro _ ⟨u69,rfl,hu69⟩
 refine tkE rfl (PE.andU rfl rfl (by decide) (by decide)) rfl ?_
 rintro _ ⟨u70,rfl,hu70⟩
 refine tk rfl (PE.conv64 Zdq ik3 rfl (by omega)) rfl (Zm 1 rfl (Z5 ?_))
 first
   | exact rtA rfl rfl rfl ⟨u70,_,hu70,rfl,hu56,rfl,rfl⟩ idH
   | exact rtA rfl rfl rfl ⟨u70,_,hu70,rfl,hu30,rfl,rfl⟩ idH
   | exact rtA rfl rfl rfl ⟨u70,_,hu70,rfl,hmx,rfl,rfl⟩ idH
 refine Z2 (Z0 ?_)
 refine Zd [0,1,3,7,0,16,48,112,240,511,1023,2047,4095,8191] (tks 0 3 (.ld 3 (tks 4 3 (.ld 7 (tks 8 6 .done))))) Zt (by kernel_rfl) ?_
 refine Zm 1 rfl (tk rfl (PE.nilCheck rfl) rfl (tk rfl (PE.fA Z0t rfl) rfl (ld rfl rfl (lh Z4w rfl rfl) rfl (Zm 1 rfl (tk rfl (PE.nilCheck rfl) rfl (tk rfl (PE.fA Z0t rfl) rfl (ld rfl rfl (lh Z4w rfl rfl) rfl ?_)))))))
 refine tkE rfl (PE.shrU rfl rfl (by decide) (by omega) (by omega)) rfl ?_
 rintro _ ⟨u67,rfl,hu67⟩
 refine tkE rfl (PE.xorU rfl rfl) rfl ?_
 rintro _ ⟨u68,rfl,hu68⟩
 refine tkE rfl (PE.shrU rfl rfl (by decide) (by omega) (by omega)) rfl ?_
 rintro _ ⟨u69,rfl,hu69⟩
 refine tkE rfl (PE.andU rfl rfl (by decide) (by decide)) rfl ?_
 rintro _ ⟨u70,rfl,hu70⟩
 refine tk rfl (PE.conv64 Zdq ik3 rfl (by omega)) rfl (Zm 1 rfl (Z5 ?_))
 first
   | exact rtA rfl rfl rfl ⟨u70,_,hu70,rfl,hu56,rfl,rfl⟩ idH
   | exact rtA rfl rfl rfl ⟨u70,_,hu70,rfl,hu30,rfl,rfl⟩ idH
   | exact rtA rfl rfl rfl ⟨u70,_,hu70,rfl,hmx,rfl,rfl⟩ idH
 refine Z2 (sqt 8 rfl (pur 1 rfl (sp rfl (PE.nilCheck rfl) rfl (sp rfl (PE.fA Z2y rfl) rfl (spL rfl rfl (lh sc3 rfl rfl) rfl (sp rfl (PE.add rfl rfl (by omega)) rfl (sp rfl (PE.nilCheck rfl) rfl (sp rfl (PE.fA Z2y rfl) rfl ?_))))))))
 refine sto rfl rfl rfl cn3 rfl rfl rfl rfl ?_
 refine Z0 (Z0 ?_)
 refine Zd [0,1,3,7,0,16,48,112,240,511] (tks 0 3 (.ld 3 (tks 4 3 (.ld 7 (.tk 8 (.tk 9 .done)))))) Zt (by kernel_rfl) ?_
 refine Zm 1 rfl (tk rfl (PE.nilCheck rfl) rfl (tk rfl (PE.fA Z2y rfl) rfl (ld rfl rfl (lh sc3 rfl rfl) rfl (Zm 1 rfl (tk rfl (PE.nilCheck rfl) rfl (tk rfl (PE.fA Z5y rfl) rfl (ld rfl rfl (lh ZiP rfl rfl) rfl (tk rfl (PE.lenSl Z9b rfl) rfl (Zm 1 rfl ?_)))))))))
 refine Z1 rfl ?_ ?_<;>intro hc1<;>try simp only [cS] at hc1
 refine sqr 10 rfl (pur 2 rfl (sp rfl (PE.nilCheck rfl) rfl (sp rfl (PE.fA Z0t rfl) rfl (spL rfl rfl (lh Z4w rfl rfl) rfl ?_))))
 refine spE rfl (PE.mulU rfl rfl) rfl ?_
 rintro _ ⟨u55,rfl,hu55⟩
 refine spE rfl (PE.addU rfl rfl) rfl ?_
 rintro _ ⟨u56,rfl,hu56⟩
 refine sp rfl (PE.nilCheck rfl) rfl (sp rfl (PE.fA Z0t rfl) rfl ?_)
 refine sto rfl rfl rfl Zf2 rfl rfl rfl rfl ?_
 refine Z0 ?_
 refine Zd [0,1,3,7,0,16,48,112,240,511,1023,2047,4095,8191] (tks 0 3 (.ld 3 (tks 4 3 (.ld 7 (tks 8 6 .done))))) Zt (by kernel_rfl) ?_
 refine Zm 1 rfl (tk rfl (PE.nilCheck rfl) rfl (tk rfl (PE.fA Z0t rfl) rfl (ld rfl rfl (lh Z4w rfl rfl) rfl (Zm 1 rfl (tk rfl (PE.nilCheck rfl) rfl (tk rfl (PE.fA Z0t rfl) rfl (ld rfl rfl (lh Z4w rfl rfl) rfl ?_)))))))
 refine tkE rfl (PE.shrU rfl rfl (by decide) (by omega) (by omega)) rfl ?_
 rintro _ ⟨u67,rfl,hu67⟩
 refine tkE rfl (PE.xorU rfl rfl) rfl ?_
 rintro _ ⟨u68,rfl,hu68⟩
 refine tkE rfl (PE.shrU rfl rfl (by decide) (by omega) (by omega)) rfl ?_
 rintro _ ⟨u69,rfl,hu69⟩
 refine tkE rfl (PE.andU rfl rfl (by decide) (by decide)) rfl ?_
 rintro _ ⟨u70,rfl,hu70⟩
 refine tk rfl (PE.conv64 Zdq ik3 rfl (by omega)) rfl (Zm 1 rfl (Z5 ?_))
 first
   | exact rtA rfl rfl rfl ⟨u70,_,hu70,rfl,hu56,rfl,rfl⟩ idH
   | exact rtA rfl rfl rfl ⟨u70,_,hu70,rfl,hu30,rfl,rfl⟩ idH
   | exact rtA rfl rfl rfl ⟨u70,_,hu70,rfl,hmx,rfl,rfl⟩ idH
 refine Z2 (Z0 ?_)
 refine Zd [0,1,3,7,0,16,48,112,240,511,1023,2047,4095,8191] (tks 0 3 (.ld 3 (tks 4 3 (.ld 7 (tks 8 6 .done))))) Zt (by kernel_rfl) ?_
 refine Zm 1 rfl (tk rfl (PE.nilCheck rfl) rfl (tk rfl (PE.fA Z0t rfl) rfl (ld rfl rfl (lh Z4w rfl rfl) rfl (Zm 1 rfl (tk rfl (PE.nilCheck rfl) rfl (tk rfl (PE.fA Z0t rfl) rfl (ld rfl rfl (lh Z4w rfl rfl) rfl ?_)))))))
 refine tkE rfl (PE.shrU rfl rfl (by decide) (by omega) (by omega)) rfl ?_
 rintro _ ⟨u67,rfl,hu67⟩
 refine tkE rfl (PE.xorU rfl rfl) rfl ?_
 rintro _ ⟨u68,rfl,hu68⟩
 refine tkE rfl (PE.shrU rfl rfl (by decide) (by omega) (by omega)) rfl ?_
 rintro _ ⟨u69,rfl,hu69⟩
 refine tkE rfl (PE.andU rfl rfl (by decide) (by decide)) rfl ?_
 rintro _ ⟨u70,rfl,hu70⟩
 refine tk rfl (PE.conv64 Zdq ik3 rfl (by omega)) rfl (Zm 1 rfl (Z5 ?_))
 first
   | exact rtA rfl rfl rfl ⟨u70,_,hu70,rfl,hu56,rfl,rfl⟩ idH
   | exact rtA rfl rfl rfl ⟨u70,_,hu70,rfl,hu30,rfl,rfl⟩ idH
   | exact rtA rfl rfl rfl ⟨u70,_,hu70,rfl,hmx,rfl,rfl⟩ idH
theorem Z0r (g:List Int) (ag:Option Addr) (cg bk:Nat) (hgl:g.length≤9223372036854775807) (tq mx:Int) (htq:0≤tq∧tq≤1000000000) (hmx:0≤mx∧mx≤4294967295) (n:Int) (H:Z8) (R:Z4) [hG:MemRows ag 1 (Z4U g) R] :
    Fn Tryz.prog 21 [.pointer (some ⟨bk,0,none⟩),.int .i64 n] ((bk,cel 111 [.slice ag g.length cg,.int .i64 (tq),.int .u32 (mx)])::H) R (fun v H' R'=>∃ x m':Int,(0≤x∧x<max 1 n)∧v = .int .i64 x∧(0≤m'∧m'≤4294967295)∧H'=(bk,cel 111 [.slice ag g.length cg,.int .i64 (tq+1),.int .u32 (m')])::H∧R'=R):=by
 refine Zc Tryz.func21 rfl Tryz.ntmps21 rfl ?_
 refine sqt 1 rfl (pur 1 rfl (sqt 6 rfl (pur 1 rfl ?_)))
 refine cl rfl Zjm rfl rfl (Z9Y g ag cg bk hgl tq mx htq hmx _ _) ?_
 rintro _ _ _ ⟨x,m',hx,rfl,hm',rfl,rfl⟩
 refine pur 1 rfl (sp rfl (PE.max rfl rfl) rfl (sp rfl (PE.rem rfl rfl (by omega)) rfl (pur 1 rfl (Z5 ?_))))
 exact rtA rfl rfl rfl ⟨_,m',⟨Int.emod_nonneg _ (by omega),Int.emod_lt_of_pos _ (by omega)⟩,rfl,hm',rfl,rfl⟩ idH
theorem Z2v (g:List Int) (ag:Option Addr) (cg bk:Nat) (hgl:g.length≤9223372036854775807) (tq mx:Int) (htq:0≤tq∧tq≤1000000000) (hmx:0≤mx∧mx≤4294967295) (lo hi:Int) (hb : -1000000≤lo∧lo≤1000000 ∧ -1000000≤hi∧hi≤1000000) (H:Z8) (R:Z4) [hG:MemRows ag 1 (Z4U g) R] :
    Fn Tryz.prog 15 [.pointer (some ⟨bk,0,none⟩),.int .i64 lo,.int .i64 hi] ((bk,cel 111 [.slice ag g.length cg,.int .i64 (tq),.int .u32 (mx)])::H) R (fun v H' R'=>∃ x m':Int,(lo≤x∧x<lo+max 1 (hi-lo+1))∧v = .int .i64 x∧(0≤m'∧m'≤4294967295)∧H'=(bk,cel 111 [.slice ag g.length cg,.int .i64 (tq+1),.int .u32 (m')])::H∧R'=R):=by
 refine Zc Tryz.func15 rfl Tryz.ntmps15 rfl ?_
 refine sqt 1 rfl (pur 1 rfl (sqt 9 rfl (pur 4 rfl (sp rfl (PE.sub rfl rfl (by omega)) rfl (sp rfl (PE.add rfl rfl (by omega)) rfl ?_)))))
 refine cl rfl Z2L rfl rfl (Z0r g ag cg bk hgl tq mx htq hmx (hi-lo+1) _ _) ?_
 rintro _ _ _ ⟨x,m',hx,rfl,hm',rfl,rfl⟩
 refine sp rfl (PE.add rfl rfl (by omega)) rfl (pur 1 rfl (Z5 ?_))
 exact rtA rfl rfl rfl ⟨lo+x,m',⟨by omega,by omega⟩,rfl,hm',rfl,rfl⟩ idH
set_option maxHeartbeats 800000 in
theorem Z51 (fs:List Int) (mv:List SMov) (am:List Int) (hml:am.length=mv.length) (hm10:mv.length≤10) (hfb:∀ i,0≤na fs i∧na fs i≤300) (hab:∀ i,0≤na am i∧na am i≤300) (days:Int) (vb vl:Value) (aM aF aA:Option Addr) (kM kF kA:Nat) (b:Nat) (hb:b<fs.length) (t:Int) (H:Z8) (R:Z4) (hM:RdR aM 5 (Zn mv) H R) (hF:RdR aF 1 (Z6 fs) H R) (hA:RdR aA 1 (Z6 am) H R) :
    FnV Tryz.prog 59 [.agg #[.int .i64 days,vb,.slice aM mv.length kM,vl],(amv (.slice aF fs.length kF) (.slice aA am.length kA)),.int .i64 (b:Int),.int .i64 t] H R (.int .i64 (con fs mv am b t)):=by
 refine Zc Tryz.func59 rfl Tryz.ntmps59 rfl ?_
 refine sqt 3 rfl (bx rfl rfl rfl (fun b4=>bx rfl rfl rfl (fun b5=>pur 1 rfl (sqt 6 rfl (sp rfl (PE.fA ZaW rfl) rfl (spL rfl rfl (lh (v:=.slice aF fs.length kF) Z0x rfl rfl) rfl (pur 1 rfl ?_)))))))
 refine ZbO (hF.t.t) (ZK (ZQ (ZR hb))) (fun bf of he=>?_)
 subst he
 refine sp rfl (PE.indexAddr Z0G rfl rfl (by omega) (by omega)) rfl (spL rfl rfl (lR0 (x:=.int .i64 (na fs b)) hF.t.t sc3 (ZQ (ZR hb)) rfl) rfl (pur 1 rfl (Z0 (sqt 4 rfl (sp rfl (PE.fA Z0H rfl) rfl (spL rfl rfl (lh (v:=.slice aM mv.length kM) Z6M rfl rfl) rfl (sp rfl (PE.lenSl Z6z rfl) rfl (pur 1 rfl (Z3 ?_)))))))))
 refine Zb (ι:={i:Nat // i≤mv.length}) (fun i=>⟨[(2,.int .i64 (b:Int)),(3,.int .i64 t),(4,.pointer (some ⟨b4,0,none⟩)),(5,.pointer (some ⟨b5,0,none⟩)),(18,.slice aM mv.length kM),(19,.int .i64 (mv.length:Int)),(9,.int .i64 (con fs (mv.take i.1) am b t)),(20,.int .i64 (i.1:Int))],(b5,cel 89 [.slice (some ⟨bf,of,none⟩) fs.length kF,.slice aA am.length kA])::(b4,cel 60 [.int .i64 days,vb,.slice aM mv.length kM,vl])::H,R⟩) (fun i=>mv.length-i.1) ⟨0,Nat.zero_le _⟩ ?_ (fun i=>?_)
 rw [show na fs b=con fs (mv.take 0) am b t by unfold con;rw [List.take_zero];cases am<;>(show na fs b=na fs b+(0:Int);omega)]
 exact Ze idH
 obtain ⟨i,hi⟩:=i
 dsimp only at hi ⊢
 refine sqt 1 rfl (pur 1 rfl (Z0 ?_))
 refine Z1 rfl ?_ ?_<;>intro hc0<;>try simp only [cS] at hc0
 obtain ⟨m9,hm9⟩:∃ x,mv[i]?=some x:=⟨_,List.getElem?_eq_getElem (by omega)⟩
 have hst:con fs (mv.take (i+1)) am b t=(con fs (mv.take i) am b t+(bif (decide (m9.day<t)&&decide (m9.to=(b:Int))) then na am i else 0))-(bif (decide (m9.day<t)&&decide (m9.fr=(b:Int))) then na am i else 0):=by unfold con;rw [Z6j hml hm9];omega
 have hal:=hab i
 have hfl:=hfb b
 have hcb:=ZaE (b:=(b:Int)) (t:=t) (by decide) (mv:=mv.take i) hab
 rw [List.length_take,Nat.min_eq_left (by omega)] at hcb
 have hni : -3300≤con fs (mv.take i) am b t∧con fs (mv.take i) am b t≤3300:=by unfold con;omega
 generalize hNI:con fs (mv.take i) am b t=n9 at hst hni ⊢
 refine ZbO hM.t.t (ZK (Z2s hm9)) (fun bm9 om9 he=>?_)
 subst he
 refine ZbO hA.t.t (ZK (ZQ (ZR (by rw [hml];omega:i<am.length)))) (fun ba9 oa9 he=>?_)
 subst he
 refine Z2 (Z0 (Z3 (sqt 6 rfl (pur 1 rfl (sp rfl (PE.indexAddr Zfa rfl rfl (by omega) (by omega)) rfl (spL rfl rfl (lRA hM.t.t Z9s (Z2s hm9) rfl) rfl (alc rfl Z7L rfl (fun b11=>pur 1 rfl ?_))))))))
 refine ZB (l':=Z07 m9) rfl rfl rfl ZcH rfl rfl rfl rfl (nl rfl) ?_
 refine Z0 (Z0 ?_)
 refine Z4G (ι:=Unit) (fun _=>⟨[(2,.int .i64 (b:Int)),(3,.int .i64 t),(4,.pointer (some ⟨b4,0,none⟩)),(5,.pointer (some ⟨b5,0,none⟩)),(18,.slice (some ⟨bm9,om9,none⟩) mv.length kM),(19,.int .i64 (mv.length:Int)),(10,.int .i64 (i:Int)),(11,.pointer (some ⟨b11,0,none⟩)),(20,.int .i64 (i:Int)),(9,.int .i64 n9),(34,.bool (decide (m9.day<t)&&decide (m9.to=(b:Int))))],(b11,cel 83 (Z07 m9))::(b5,cel 89 [.slice (some ⟨bf,of,none⟩) fs.length kF,.slice (some ⟨ba9,oa9,none⟩) am.length kA])::(b4,cel 60 [.int .i64 days,vb,.slice (some ⟨bm9,om9,none⟩) mv.length kM,vl])::H,R⟩) ?_ ?_
 refine sqr 10 rfl (sp rfl (PE.fA Z1U rfl) rfl (spL rfl rfl (lh (v:=.int .i64 m9.day) sc3 rfl rfl) rfl (pur 3 rfl ?_)))
 refine Zw 29 rfl ?_ ?_<;>intro g29
 refine spG rfl rfl rfl rfl (PE.fA Z1J rfl) rfl ?_
 refine Z0U rfl rfl rfl rfl rfl (lh (v:=.int .i64 m9.to) sc3 rfl rfl) rfl (pur 3 rfl ?_)
 simp only [g29,Bool.true_and,Bool.false_and]
 exact Zu () idH
 refine pur 5 rfl ?_
 simp only [g29,Bool.true_and,Bool.false_and]
 exact Zu () idH
 rintro ⟨⟩
 dsimp only
 refine Z22 (ι:=Unit) (fun _=>⟨[(2,.int .i64 (b:Int)),(3,.int .i64 t),(4,.pointer (some ⟨b4,0,none⟩)),(5,.pointer (some ⟨b5,0,none⟩)),(18,.slice (some ⟨bm9,om9,none⟩) mv.length kM),(19,.int .i64 (mv.length:Int)),(10,.int .i64 (i:Int)),(11,.pointer (some ⟨b11,0,none⟩)),(20,.int .i64 (i:Int)),(9,.int .i64 (n9+(bif (decide (m9.day<t)&&decide (m9.to=(b:Int))) then na am i else 0)))],(b11,cel 83 (Z07 m9))::(b5,cel 89 [.slice (some ⟨bf,of,none⟩) fs.length kF,.slice (some ⟨ba9,oa9,none⟩) am.length kA])::(b4,cel 60 [.int .i64 days,vb,.slice (some ⟨bm9,om9,none⟩) mv.length kM,vl])::H,R⟩) ?_ ?_
 refine Z1 rfl ?_ ?_<;>intro hc1
 refine sqr 8 rfl (pur 1 rfl (sp rfl (PE.fA Z4j rfl) rfl (spL rfl rfl (lh Z0x rfl rfl) rfl (pur 1 rfl (sp rfl (PE.indexAddr Z0G rfl rfl (by omega) (by rw [hml];omega)) rfl (spL rfl rfl (lR0 (x:=.int .i64 (na am i)) hA.t.t.t sc3 (ZQ (ZR (k:=i) (by rw [hml];omega))) rfl) rfl (sp rfl (PE.add rfl rfl (by omega)) rfl (pur 1 rfl ?_))))))))
 rw [hc1,cond_true]
 exact ZY () idH
 refine Z2 ?_
 rw [hc1,cond_false,Int.add_zero]
 exact ZY () idH
 rintro ⟨⟩
 dsimp only
 refine Z0 ?_
 refine Z4G (ι:=Unit) (fun _=>⟨[(2,.int .i64 (b:Int)),(3,.int .i64 t),(4,.pointer (some ⟨b4,0,none⟩)),(5,.pointer (some ⟨b5,0,none⟩)),(18,.slice (some ⟨bm9,om9,none⟩) mv.length kM),(19,.int .i64 (mv.length:Int)),(10,.int .i64 (i:Int)),(11,.pointer (some ⟨b11,0,none⟩)),(20,.int .i64 (i:Int)),(9,.int .i64 (n9+(bif (decide (m9.day<t)&&decide (m9.to=(b:Int))) then na am i else 0))),(51,.bool (decide (m9.day<t)&&decide (m9.fr=(b:Int))))],(b11,cel 83 (Z07 m9))::(b5,cel 89 [.slice (some ⟨bf,of,none⟩) fs.length kF,.slice (some ⟨ba9,oa9,none⟩) am.length kA])::(b4,cel 60 [.int .i64 days,vb,.slice (some ⟨bm9,om9,none⟩) mv.length kM,vl])::H,R⟩) ?_ ?_
 refine sqr 10 rfl (sp rfl (PE.fA Z1U rfl) rfl (spL rfl rfl (lh (v:=.int .i64 m9.day) sc3 rfl rfl) rfl (pur 3 rfl ?_)))
 refine Zw 46 rfl ?_ ?_<;>intro g46
 refine spG rfl rfl rfl rfl (PE.fA Z0z rfl) rfl ?_
 refine Z0U rfl rfl rfl rfl rfl (lh (v:=.int .i64 m9.fr) sc3 rfl rfl) rfl (pur 3 rfl ?_)
 simp only [g46,Bool.true_and,Bool.false_and]
 exact Zu () idH
 refine pur 5 rfl ?_
 simp only [g46,Bool.true_and,Bool.false_and]
 exact Zu () idH
 rintro ⟨⟩
 dsimp only
 refine Z1 rfl ?_ ?_<;>intro hc2
 refine sqr 8 rfl (pur 1 rfl (sp rfl (PE.fA Z4j rfl) rfl (spL rfl rfl (lh Z0x rfl rfl) rfl (pur 1 rfl (sp rfl (PE.indexAddr Z0G rfl rfl (by omega) (by rw [hml];omega)) rfl (spL rfl rfl (lR0 (x:=.int .i64 (na am i)) hA.t.t.t sc3 (ZQ (ZR (k:=i) (by rw [hml];omega))) rfl) rfl (sp rfl (PE.sub rfl rfl (by cases (decide (m9.day<t)&&decide (m9.to=(b:Int)))<;>simp only [cond_true,cond_false]<;>omega)) rfl (pur 1 rfl (sqr 2 rfl (sp rfl (PE.add rfl rfl (by omega)) rfl (pur 1 rfl ?_)))))))))))
 rw [hc2,cond_true] at hst
 exact ZC ⟨i+1,by omega⟩ (by dsimp only;omega) (by dsimp only;rw [hst];exact sbA) (fun w h=>h.del b11)
 refine Z2 (sqr 2 rfl (sp rfl (PE.add rfl rfl (by omega)) rfl (pur 1 rfl ?_)))
 rw [hc2,cond_false,Int.sub_zero] at hst
 exact ZC ⟨i+1,by omega⟩ (by dsimp only;omega) (by dsimp only;rw [hst];exact sbA) (fun w h=>h.del b11)
 obtain rfl:i=mv.length:=by omega
 rw [List.take_length]
 refine Z9 (Za (Za (Zh (sqt 2 rfl (pur 2 rfl (Z5 ?_))))))
 exact rtA rfl rfl rfl ⟨rfl,rfl,rfl⟩ (fun w h=>(h.del b5).del b4)
theorem Zgq (fs:List Int) (mv:List SMov) (am:List Int) (hml:am.length=mv.length) (hm10:mv.length≤10) (hfb:∀ i,0≤na fs i∧na fs i≤300) (hab:∀ i,0≤na am i∧na am i≤300) (days:Int) (vb vl:Value) (aM aF aA:Option Addr) (kM kF kA:Nat) (m:SMov) (hm:m.fr = -1∨(0≤m.fr∧m.fr<fs.length)) (hmd:0≤m.day∧m.day≤10) (H:Z8) (R:Z4) (hM:RdR aM 5 (Zn mv) H R) (hF:RdR aF 1 (Z6 fs) H R) (hA:RdR aA 1 (Z6 am) H R) :
    FnV Tryz.prog 60 [.agg #[.int .i64 days,vb,.slice aM mv.length kM,vl],(amv (.slice aF fs.length kF) (.slice aA am.length kA)),.agg (Z07 m).toArray] H R (.int .i64 (if m.fr = -1 then 300 else con fs mv am m.fr.toNat (m.day+1))):=by
 refine Zc Tryz.func60 rfl Tryz.ntmps60 rfl ?_
 refine sqt 4 rfl (bx rfl rfl rfl (fun b3=>bx rfl rfl rfl (fun b4=>bx rfl rfl rfl (fun b5=>pur 1 rfl (Z0 (sqt 3 rfl (sp rfl (PE.fA Z0z rfl) rfl (spL rfl rfl (lh (v:=.int .i64 m.fr) sc3 rfl rfl) rfl (pur 1 rfl ?_)))))))))
 refine Z1 rfl ?_ ?_<;>intro hc0<;>try simp only [cS] at hc0
 refine sqt 1 rfl (pur 1 rfl (Z5 ?_))
 exact rtA rfl rfl rfl ⟨by simp only [ZP];rw [if_pos hc0],rfl,rfl⟩ (fun w h=>((h.del b5).del b4).del b3)
 obtain ⟨q,hq⟩:∃ q:Nat,m.fr=(q:Int):=⟨m.fr.toNat,by omega⟩
 rw [hq]
 refine Z2 (sqt 9 rfl (spL rfl rfl (lhA [.int .i64 days,vb,.slice aM mv.length kM,vl] Z4P rfl (rest:=[]) rfl rfl) rfl (spL rfl rfl (lhA [.slice aF fs.length kF,.slice aA am.length kA] Zc5 rfl (rest:=[]) rfl rfl) rfl (sp rfl (PE.fA Z0z rfl) rfl (spL rfl rfl (lh (v:=.int .i64 (q:Int)) sc3 rfl (by rw [← hq];rfl)) rfl (sp rfl (PE.fA Z1U rfl) rfl (spL rfl rfl (lh (v:=.int .i64 m.day) sc3 rfl rfl) rfl (sp rfl (PE.add rfl rfl (by omega)) rfl ?_))))))))
 refine clV rfl Z93 rfl rfl (Z51 fs mv am hml hm10 hfb hab days vb vl aM aF aA kM kF kA q (by omega) (m.day+1) _ _ hM.t.t.t hF.t.t.t hA.t.t.t) ?_
 refine pur 1 rfl (Z5 ?_)
 exact rtA rfl rfl rfl ⟨by simp only [ZP];rw [if_neg (by omega)];rfl,rfl,rfl⟩ (fun w h=>((h.del b5).del b4).del b3)
theorem ZeT (lo hi:Int) (H:Z8) (R:Z4) :
    FnV Tryz.prog 118 [.int .i64 lo,.int .i64 hi] H R (spv ⟨lo,hi⟩):=by
 refine Zc Tryz.func118 rfl Tryz.ntmps118 rfl ?_
 refine sqt 1 rfl (alc rfl Zg5 rfl (fun b4=>sqt 4 rfl (pur 2 rfl (sp rfl (PE.build (out:=[_,_]) Zkl Zg5 rfl rfl) rfl ?_))))
 refine sto rfl rfl rfl ZhL rfl rfl rfl rfl ?_
 refine Z5 ?_
 exact Zr (vs:=[_]) rfl (.cons (RV.cell rfl (lhA [.int .i64 lo,.int .i64 hi] Z9r rfl (rest:=[]) rfl rfl)) .nil) rfl ⟨rfl,rfl,rfl⟩ (fun w h=>h.del b4)
theorem Zad (l1:List Int) (a1q:Option Addr) (c1q:Nat) (hl1:l1.length≤9223372036854775807) (bq:Nat) (tq mx:Int) (htq:0≤tq∧tq≤1000000) (hmx:0≤mx∧mx≤4294967295) (n wide:Int) (hn:0≤n∧n≤300) (hw:0≤wide∧wide≤100) (H:Z8) (R:Z4) [hG1:MemRows a1q 1 (Z4U l1) R] :
    Fn Tryz.prog 58 [.pointer (some ⟨bq,0,none⟩),.int .i64 n,.int .i64 wide] ((bq,cel 111 [.slice a1q l1.length c1q,.int .i64 (tq),.int .u32 (mx)])::H) R (fun v H' R'=>∃ (s:Spn) (mx':Int),(s.ok∧s.lo≤n∧n≤s.hi)∧(0≤mx'∧mx'≤4294967295)∧v=spv s∧H'=(bq,cel 111 [.slice a1q l1.length c1q,.int .i64 (tq+1+1),.int .u32 (mx')])::H∧R'=R):=by
 refine Zc Tryz.func58 rfl Tryz.ntmps58 rfl ?_
 refine sqt 1 rfl (alc rfl Zg5 rfl (fun b6=>sqt 16 rfl (pur 3 rfl (sp rfl (PE.add rfl rfl (by omega)) rfl ?_))))
 refine ZH bq ?_
 refine cl rfl Z2L rfl rfl (Z0r l1 a1q c1q bq hl1 _ _ (by omega) (by assumption) (wide+1) _ _) ?_
 rintro _ _ R1 ⟨x11,m11,hx11,rfl,hm11,rfl,hR1⟩
 obtain rfl:=hR1.symm
 clear hR1
 refine sp rfl (PE.sub rfl rfl (by omega)) rfl (sp rfl (PE.max rfl rfl) rfl (pur 3 rfl (sp rfl (PE.add rfl rfl (by omega)) rfl ?_)))
 refine cl rfl Z2L rfl rfl (Z0r l1 a1q c1q bq hl1 _ _ (by omega) (by assumption) (wide+1) _ _) ?_
 rintro _ _ R1 ⟨x18,m18,hx18,rfl,hm18,rfl,hR1⟩
 obtain rfl:=hR1.symm
 clear hR1
 refine sp rfl (PE.add rfl rfl (by omega)) rfl (sp rfl (PE.min rfl rfl) rfl ?_)
 refine clV rfl ZgB rfl rfl (ZeT _ _ _ _) ?_
 refine sto rfl rfl rfl ZhL rfl rfl rfl rfl ?_
 refine Z5 ?_
 exact Zr (vs:=[_]) rfl (.cons (RV.cell rfl (lhA [.int .i64 (max 0 (n-x11)),.int .i64 (min 300 (n+x18))] Z9r rfl (rest:=[]) rfl rfl)) .nil) rfl ⟨⟨max 0 (n-x11),min 300 (n+x18)⟩,m18,⟨⟨by dsimp only;omega,by dsimp only;omega,by dsimp only;omega⟩,by dsimp only;omega,by dsimp only;omega⟩,by assumption,rfl,rfl,rfl⟩ (fun w h=>(h.del b6))
theorem Zj2:apT Tryz.prog 56=some (62,3,24):=by kernel_rfl
theorem Zg8:apT Tryz.prog 57=some (83,5,40):=by kernel_rfl
theorem Zj3:apT Tryz.prog 58=some (102,4,32):=by kernel_rfl
theorem Z79:cal Tryz.prog 15=true:=by kernel_rfl
theorem ZeY:cal Tryz.prog 58=true:=by kernel_rfl
theorem Zjq:cal Tryz.prog 60=true:=by kernel_rfl
theorem ZjD:ZJ Tryz.prog 56=some 1:=by kernel_rfl
theorem ZhM:ZJ Tryz.prog 57=some 1:=by kernel_rfl
theorem ZjE:ZJ Tryz.prog 58=some 1:=by kernel_rfl
theorem ZhN:ZJ Tryz.prog 60=some 4:=by kernel_rfl
theorem ZjF:ZJ Tryz.prog 89=some 2:=by kernel_rfl
theorem ZfE:Z00 Tryz.prog 102=some [(0,1),(1,1),(2,2)]:=by kernel_rfl
theorem ZjP:Z00 Tryz.prog 60=some [(0,1),(1,1),(2,1),(3,1)]:=by kernel_rfl
theorem ZjQ:Z00 Tryz.prog 62=some [(0,1),(1,2)]:=by kernel_rfl
theorem ZjR:Z00 Tryz.prog 83=some [(0,1),(1,1),(2,1),(3,2)]:=by kernel_rfl
theorem Zk1:slE Tryz.prog 56=some (62,3):=by kernel_rfl
theorem ZiR:slE Tryz.prog 57=some (83,5):=by kernel_rfl
theorem Zk2:slE Tryz.prog 58=some (102,4):=by kernel_rfl
theorem Zg0:ZD Tryz.prog 60=some ([.int .i64 0,.slice none 0 0,.slice none 0 0,.slice none 0 0]):=by kernel_rfl
theorem ZiU:ZD Tryz.prog 89=some ([.slice none 0 0,.slice none 0 0]):=by kernel_rfl
structure BnI (bl:List SBin) (fs:List Int):Prop where
 len:fs.length=bl.length
 v:∀ v∈fs,0≤v∧v≤59
 b:∀ (k:Nat) x,bl[k]?=some x→x.holds=300∧x.fst.ok∧x.fst.lo≤na fs k∧na fs k≤x.fst.hi
theorem Z6E {l:List Int} {v:Int} {k:Nat} (h:k<l.length):na (l++[v]) k=na l k:=Z4p h
theorem Z6D {l:List Int} {v:Int}:na (l++[v]) l.length=v:=by exact Z4q (A:=l) (B:=[v]) (j:=0)
theorem BnI.more {bl:List SBin} {fs:List Int} (h:BnI bl fs) {v:Int} {s:Spn} (hv:0≤v∧v≤59) (hs:s.ok∧s.lo≤v∧v≤s.hi):BnI (bl++[⟨300,s⟩]) (fs++[v]):=⟨by rw [List.length_append,List.length_append,h.len];rfl,fun x hx=>by
 rcases List.mem_append.1 hx with h1 | h1
 · exact h.v x h1
 · rw [List.mem_singleton.1 h1];exact hv,fun k x hx=>by
 rw [List.getElem?_append] at hx
 split at hx
 · rename_i e
   rw [Z6E (by rw [h.len];exact e)];exact h.b k x hx
 · rename_i e
   have h1:=(List.getElem?_eq_some_iff.1 hx).1
   rw [List.length_singleton] at h1
   obtain rfl:k=fs.length:=by rw [h.len];omega
   rw [← h.len,Nat.sub_self] at hx
   cases hx
   rw [Z6D];exact ⟨rfl,hs⟩⟩
structure MvI (D nb many:Nat) (fs:List Int) (i:Nat) (mv:List SMov) (am:List Int):Prop where
 l1:mv.length=i
 l2:am.length=mv.length
 ok:∀ m∈mv,(0≤m.day∧m.day<D)∧(-1≤m.fr∧m.fr<nb)∧(-1≤m.to∧m.to<nb)∧m.fr≠m.to∧m.s.ok
 day:∀ m∈mv,m.day≤((i:Int)*(D:Int)) / (many:Int)
 con:∀ b:Nat,b<nb→∀ t:Int,0≤t→0≤con fs mv am b t∧con fs mv am b t≤300
 amt:∀ (j:Nat) m,mv[j]?=some m→m.s.lo≤na am j∧na am j≤m.s.hi
 bd:∀ v∈am,0≤v∧v≤300
theorem MvI.start {D nb many:Nat} {fs:List Int} (h:∀ i,0≤na fs i∧na fs i≤300):MvI D nb many fs 0 [] []:=⟨rfl,rfl,fun m h=>(by cases h),fun m h=>(by cases h),fun b _ t _=>by
 have:=h b
 show 0≤na fs b+(0:Int)∧na fs b+(0:Int)≤300
 omega,fun j m h=>(by simp at h),fun v h=>(by cases h)⟩
theorem MvI.more {D nb many:Nat} {fs:List Int} {i:Nat} {mv:List SMov} {am:List Int} (h:MvI D nb many fs i mv am) (hmn:0<many) {m:SMov} {n:Int} (hd:m.day=((i:Int)*(D:Int)) / (many:Int)) (ho:(0≤m.day∧m.day<D)∧(-1≤m.fr∧m.fr<nb)∧(-1≤m.to∧m.to<nb)∧m.fr≠m.to∧m.s.ok) (hs:m.s.lo≤n∧n≤m.s.hi) (hn:0≤n∧n≤300)
   (hf:∀ b:Nat,b<nb→m.fr=(b:Int)→n≤Sk.con fs mv am b (m.day+1)) (ht:∀ b:Nat,b<nb→m.to=(b:Int)→n≤300-Sk.con fs mv am b (m.day+1)):MvI D nb many fs (i+1) (mv++[m]) (am++[n]):=by
 have hle:((i:Int)*(D:Int)) / (many:Int)≤(((i+1:Nat):Int)*(D:Int)) / (many:Int):=Int.ediv_le_ediv (by omega) (by rw [show ((i+1:Nat):Int)=(i:Int)+1 by omega,Int.add_mul];omega)
 refine ⟨by rw [List.length_append,h.l1];rfl,by rw [List.length_append,List.length_append,h.l2];rfl,fun x hx=>?_,fun x hx=>?_,?_,fun j x hx=>?_,fun x hx=>?_⟩
 · rcases List.mem_append.1 hx with h1 | h1
   · exact h.ok x h1
   · rw [List.mem_singleton.1 h1];exact ho
 · rcases List.mem_append.1 hx with h1 | h1
   · have:=h.day x h1;omega
   · rw [List.mem_singleton.1 h1,hd];exact hle
 · exact ZcJ h.l2 (fun x hx=>by rw [hd];exact h.day x hx) h.con ho.1.1 ho.2.2.2.1 hn.1 hf ht
 · rw [List.getElem?_append] at hx
   split at hx
   · rename_i e
     rw [Z6E (by rw [h.l2];exact e)];exact h.amt j x hx
   · rename_i e
     have h1:=(List.getElem?_eq_some_iff.1 hx).1
     rw [List.length_singleton] at h1
     obtain rfl:j=am.length:=by rw [h.l2];omega
     rw [← h.l2,Nat.sub_self] at hx
     cases hx
     rw [Z6D];exact hs
 · rcases List.mem_append.1 hx with h1 | h1
   · exact h.bd x h1
   · rw [List.mem_singleton.1 h1];exact hn
structure HlI (D nb:Nat) (fs:List Int) (mv:List SMov) (am:List Int) (bl:List SBin):Prop where
 len:bl.length=nb
 b:∀ (k:Nat) x,bl[k]?=some x→(0≤x.holds∧x.holds≤300)∧(x.fst.ok∧x.fst.lo≤na fs k∧na fs k≤x.fst.hi)∧∀ t:Int,0≤t→t≤D→con fs mv am k t≤x.holds
theorem HlI.set {D nb:Nat} {fs:List Int} {mv:List SMov} {am:List Int} {bl:List SBin} (h:HlI D nb fs mv am bl) {k:Nat} {x:SBin} (hx:bl[k]?=some x) {v:Int} (hv:0≤v∧v≤300) (hc:∀ t:Int,0≤t→t≤D→con fs mv am k t≤v):HlI D nb fs mv am (bl.set k ⟨v,x.fst⟩):=⟨by rw [List.length_set];exact h.len,fun j z hz=>by
 rw [List.getElem?_set] at hz
 split at hz
 · rename_i e
   subst e
   split at hz
   · cases hz;exact ⟨hv,(h.b k x hx).2.1,hc⟩
   · cases hz
 · exact h.b j z hz⟩
def LvI (D nb:Nat) (fs:List Int) (mv:List SMov) (am:List Int) (ls:List SLev):Prop:=∀ l∈ls,((0≤l.day∧l.day≤D)∧(0≤l.bin∧l.bin<nb)∧l.s.ok)∧l.s.lo≤con fs mv am l.bin.toNat l.day∧con fs mv am l.bin.toNat l.day≤l.s.hi
theorem ZbF {a x v:List Value} {q i:Nat} (e:i=a.length+q):spl (a++x) i v=a++spl x q v:=by
 subst e
 unfold spl
 rw [List.take_length_add_append,List.append_assoc,List.append_assoc,List.append_assoc,show a.length+q+v.length=a.length+(q+v.length) by omega,List.drop_length_add_append]
theorem Z9F {jb:List Value} {v:Int}:∀ {bl:List SBin} {k i:Nat} {x:SBin},bl[k]?=some x→i=k*3→spl ((Zf bl).flatten++jb) i [.int .i64 v]=(Zf (bl.set k ⟨v,x.fst⟩)).flatten++jb
 | y::bl,0,i,x,h,e=>by
   simp only [List.getElem?_cons_zero,Option.some.injEq] at h
   subst h;subst e;rfl
 | y::bl,k+1,i,x,h,e=>by
   have ih:=Z9F (jb:=jb) (v:=v) (bl:=bl) (k:=k) (i:=k*3) (x:=x) (by simpa using h) rfl
   show spl ((Z0l y++(Zf bl).flatten)++jb) i _=(Z0l y++(Zf (bl.set k ⟨v,x.fst⟩)).flatten)++jb
   rw [List.append_assoc,List.append_assoc,← ih]
   exact ZbF (by show i=3+k*3;omega)
theorem Z7P (l:List SBin):∀ r∈Zf l,r.length=3:=fun r hr=>by obtain ⟨x,_,rfl⟩:=List.mem_map.1 hr;rfl
theorem brl (l:List SBin):(Zf l).length=l.length:=List.length_map _
theorem mrl (l:List SMov):(Zn l).length=l.length:=List.length_map _
theorem lrl (l:List SLev):(Zy l).length=l.length:=List.length_map _
theorem ZeG (l:List SBin):(Zf l).flatten.length=l.length*3:=by rw [Z0i (Z7P l),brl]
theorem OSl.formN {e sz n:Nat} {rows:List (List Value)} (o:OSl e sz rows) (h:rows.length=n):∃ a c,o.fs = .slice a n c:=by
 obtain ⟨a,c,e1,_⟩:=o.freeze
 exact ⟨a,c,by rw [e1,h]⟩
theorem ZcZ {D:Nat} {fs:List Int} {many nb:Nat} {bl:List SBin} {mv:List SMov} {am:List Int} {ls:List SLev} (hD:1≤D∧D≤4) (hnb:1≤nb∧nb≤4) (hmn:many≤8) (hls:ls.length≤5) (hfl:fs.length=nb) (hb:HlI D nb fs mv am bl) (hm:MvI D nb many fs many mv am) (hl:LvI D nb fs mv am ls):Yrd.ok ⟨D,bl,mv,ls⟩∧Mok ⟨D,bl,mv,ls⟩ fs am:=by
 have hlen:=hb.len
 refine ⟨⟨⟨hD.1,by show D≤5;omega⟩,by show 1≤bl.length∧bl.length≤4;omega,by have:=hm.l1;show mv.length≤10;omega,by show ls.length≤8;omega,fun x hx=>?_,fun m h=>?_,fun l h=>?_⟩,⟨by rw [hfl];exact hlen.symm,hm.l2,fun k x hx=>((hb.b k x hx).2.1).2,hm.amt,fun k x t hx h0 h1=>⟨(hm.con k (by have h9:k<bl.length:=(List.getElem?_eq_some_iff.1 hx).1;omega) t h0).1,(hb.b k x hx).2.2 t h0 h1⟩,fun l h=>(hl l h).2⟩⟩
 · obtain ⟨k,hk⟩:=List.mem_iff_getElem?.1 hx
   exact ⟨(hb.b k x hk).1,(hb.b k x hk).2.1.1⟩
 · have h1:=hm.ok m h
   show _∧(-1≤m.fr∧m.fr<(bl.length:Int))∧(-1≤m.to∧m.to<(bl.length:Int))∧_
   rw [hlen];exact h1
 · have h1:=(hl l h).1
   show _∧(0≤l.bin∧l.bin<(bl.length:Int))∧_
   rw [hlen];exact h1
theorem Z6a (fs:List Int) (mv:List SMov) (am:List Int) (hml:am.length=mv.length) (hm10:mv.length≤10) (hfb:∀ i,0≤na fs i∧na fs i≤300) (hab:∀ i,0≤na am i∧na am i≤300) (days:Int) (vb vl:Value) (aM aF aA:Option Addr) (kM kF kA:Nat) (b:Nat) (nf nm:Nat) (hnf:fs.length=nf) (hnm:mv.length=nm) (hb:b<nf) (t:Int) (H:Z8) (R:Z4) (hM:RdR aM 5 (Zn mv) H R) (hF:RdR aF 1 (Z6 fs) H R) (hA:RdR aA 1 (Z6 am) H R):FnV Tryz.prog 59 [.agg #[.int .i64 days,vb,.slice aM nm kM,vl],.agg #[.slice aF nf kF,.slice aA nm kA],.int .i64 (b:Int),.int .i64 t] H R (.int .i64 (con fs mv am b t)):=by
 subst hnf;subst hnm
 have h:=Z51 fs mv am hml hm10 hfb hab days vb vl aM aF aA kM kF kA b hb t H R hM hF hA
 unfold amv at h
 rw [hml] at h
 exact h
theorem ZeS (fs:List Int) (mv:List SMov) (am:List Int) (hml:am.length=mv.length) (hm10:mv.length≤10) (hfb:∀ i,0≤na fs i∧na fs i≤300) (hab:∀ i,0≤na am i∧na am i≤300) (days:Int) (vb vl:Value) (aM aF aA:Option Addr) (kM kF kA:Nat) (m:SMov) (nf nm:Nat) (hnf:fs.length=nf) (hnm:mv.length=nm) (hm:m.fr = -1∨(0≤m.fr∧m.fr<nf)) (hmd:0≤m.day∧m.day≤10) (H:Z8) (R:Z4) (hM:RdR aM 5 (Zn mv) H R) (hF:RdR aF 1 (Z6 fs) H R) (hA:RdR aA 1 (Z6 am) H R):FnV Tryz.prog 60 [.agg #[.int .i64 days,vb,.slice aM nm kM,vl],.agg #[.slice aF nf kF,.slice aA nm kA],.agg (Z07 m).toArray] H R (.int .i64 (if m.fr = -1 then 300 else con fs mv am m.fr.toNat (m.day+1))):=by
 subst hnf;subst hnm
 have h:=Zgq fs mv am hml hm10 hfb hab days vb vl aM aF aA kM kF kA m hm hmd H R hM hF hA
 unfold amv at h
 rw [hml] at h
 exact h
set_option maxHeartbeats 2400000 in
theorem ZeK (l1:List Int) (a1q:Option Addr) (c1q:Nat) (hl1:l1.length≤9223372036854775807) (bq:Nat) (tq mx:Int) (htq:0≤tq∧tq≤100000) (hmx:0≤mx∧mx≤4294967295) (H:Z8) (R:Z4) [hG1:MemRows a1q 1 (Z4U l1) R] :
    Fn Tryz.prog 23 [.pointer (some ⟨bq,0,none⟩),.int .i64 4,.int .i64 4,.int .i64 8,.int .i64 5] ((bq,cel 111 [.slice a1q l1.length c1q,.int .i64 (tq),.int .u32 (mx)])::H) R (fun v H' R'=>∃ (y:Yrd) (fs am:List Int) (a1 a2 a3:Option Addr) (k1 k2 k3:Nat) (va:Value) (tq' mx':Int),y.ok∧Mok y fs am∧(y.moves.length≤8∧y.levels.length≤5)∧(∃ v1 v2:Value,v1.oneCell'=true∧v2.oneCell'=true∧va = .agg #[v1,v2])∧(tq≤tq'∧tq'≤tq+(100))∧(0≤mx'∧mx'≤4294967295)∧v = .tuple #[(y.v a1 a2 a3 k1 k2 k3),va]∧H'=(bq,cel 111 [.slice a1q l1.length c1q,.int .i64 (tq'),.int .u32 (mx')])::H∧R'=RowsA a1 3 (Zf y.bins)::RowsA a2 5 (Zn y.moves)::RowsA a3 4 (Zy y.levels)::R):=by
 refine Zc Tryz.func23 rfl Tryz.ntmps23 rfl ?_
 refine sqt 2 rfl (alc rfl Zg0 rfl (fun b10=>alc rfl ZiU rfl (fun b11=>sqt 6 rfl (pur 2 rfl ?_))))
 refine ZH bq ?_
 refine cl rfl Z79 rfl rfl (Z2v l1 a1q c1q bq hl1 _ _ (by omega) (by assumption) (1) (4) (by omega) _ _) ?_
 rintro _ _ R1 ⟨x27,m27,hx27,rfl,hm27,rfl,hR1⟩
 obtain rfl:=hR1.symm
 clear hR1
 obtain ⟨D,rfl⟩:∃ D:Nat,x27=D:=⟨x27.toNat,by omega⟩
 refine sp rfl (PE.build (out:=[.int .i64 (D:Int),Zl,Zl,Zl]) ZjP Zg0 rfl rfl) rfl (alc rfl Zg0 rfl (fun b12=>?_))
 refine ZB (l':=[.int .i64 (D:Int),Zl,Zl,Zl]) rfl rfl rfl ZhN rfl rfl rfl rfl (nl rfl) ?_
 refine sqt 1 rfl (alc rfl ZiU rfl (fun b13=>Z0 (sqt 4 rfl (pur 2 rfl ?_))))
 refine ZH bq ?_
 refine cl rfl Z79 rfl rfl (Z2v l1 a1q c1q bq hl1 _ _ (by omega) (by assumption) (1) (4) (by omega) _ _) ?_
 rintro _ _ R1 ⟨x31,m31,hx31,rfl,hm31,rfl,hR1⟩
 obtain rfl:=hR1.symm
 clear hR1
 obtain ⟨nb,rfl⟩:∃ n:Nat,x31=n:=⟨x31.toNat,by omega⟩
 refine pur 1 rfl (Z3 ?_)
 refine Zb (ι:=(x:{x:Nat×List SBin×List Int×Int×Int // x.1≤nb∧x.2.1.length=x.1∧BnI x.2.1 x.2.2.1∧(tq≤x.2.2.2.1∧x.2.2.2.1≤tq+(2+3*x.1))∧(0≤x.2.2.2.2∧x.2.2.2.2≤4294967295)})×OSl 62 3 (Zf x.1.2.1)×OSl 3 1 (Z6 x.1.2.2.1)) (fun x=>⟨[(0,.pointer (some ⟨bq,0,none⟩)),(4,.int .i64 5),(10,.pointer (some ⟨b10,0,none⟩)),(11,.pointer (some ⟨b11,0,none⟩)),(12,.pointer (some ⟨b12,0,none⟩)),(13,.pointer (some ⟨b13,0,none⟩)),(3,.int .i64 8),(31,.int .i64 (nb:Int)),(32,.int .i64 (x.1.1.1:Int))],(bq,cel 111 [.slice a1q l1.length c1q,.int .i64 (x.1.1.2.2.2.1),.int .u32 (x.1.1.2.2.2.2)])::(x.2.1.G++(x.2.2.G++((b12,cel 60 [.int .i64 (D:Int),x.2.1.fs,Zl,Zl])::(b13,cel 89 [x.2.2.fs,Zl])::(b11,cel 89 [Zl,Zl])::(b10,cel 60 [.int .i64 0,Zl,Zl,Zl])::H))),R⟩) (fun x=>nb-x.1.1.1) ⟨⟨(0,[],[],tq+1+1,m31),by dsimp only;omega,rfl,⟨rfl,fun v h=>(by cases h),fun k x h=>(by simp at h)⟩,by dsimp only;omega,by assumption⟩,OSl.nil _ _,OSl.nil _ _⟩ ?_ (fun x=>?_)
 exact Ze (fun w h=>(h.pull b12).pull bq)
 obtain ⟨⟨⟨k,bl,fs,tq2,mx2⟩,hk,hbl,hbn,htq2,hmx2⟩,oB,oF⟩:=x
 dsimp only at hk hbl hbn htq2 hmx2 oB oF ⊢
 refine sqt 1 rfl (pur 1 rfl (Z0 ?_))
 refine Z1 rfl ?_ ?_<;>intro hc0<;>try simp only [cS] at hc0
 have hfsl:=hbn.len
 refine Z2 (Z0 (Z3 (sqt 3 rfl (pur 1 rfl ?_))))
 refine cl rfl Z2L rfl rfl (Z0r l1 a1q c1q bq hl1 _ _ (by omega) (by assumption) (60) _ _) ?_
 rintro _ _ R1 ⟨x35,m35,hx35,rfl,hm35,rfl,hR1⟩
 obtain rfl:=hR1.symm
 clear hR1
 refine pur 1 rfl (sqt 7 rfl (sp rfl (PE.fA ZaW rfl) rfl (spL rfl rfl (lh (v:=oF.fs) Z0x rfl rfl) rfl (pur 1 rfl ?_))))
 refine bsl (out:=[_]) rfl Z0F zl3 rfl rfl rfl rfl rfl rfl (fun b39=>?_)
 refine apO (oF) rfl Z37 rfl rfl (ZU (row:=[.int .i64 x35]) rfl) rfl rfl ((by simp only [irl,List.length_cons,List.length_nil];omega)) rfl (fun o40=>?_)
 refine sp rfl (PE.fA ZaW rfl) rfl ?_
 refine ZB (l':=[o40.fs,Zl]) rfl rfl rfl Z6g rfl (by rw [o40.cells.1];first | done | rfl) (by rw [o40.cells.1];simp [o40.cells.2]) (by rw [o40.cells.1];first | done | rfl) (by rw [o40.cells.1];first | done | exact Nat.le_of_ble_eq_true rfl) ?_
 refine Zd [0,1,0,0,12,28,60,127,255,511] (.tk 0 (.ld 1 (.tk 2 (.tk 3 (.big 4 (.tk 5 (.big 6 (.big 7 (.tk 8 (.big 9 .done)))))))))) Zt (by kernel_rfl) ?_
 refine tk rfl (PE.fA Z0o rfl) rfl (ld rfl rfl (lh (v:=oB.fs) Z2I rfl rfl) rfl (Zm 2 rfl ?_))
 refine ZH bq ?_
 refine cl rfl ZeY rfl rfl (Zad l1 a1q c1q hl1 bq _ _ (by omega) (by assumption) (x35) 12 (by omega) (by omega) _ _) ?_
 rintro _ _ R1 ⟨s46,m46,hs46,hm46,rfl,rfl,hR1⟩
 obtain rfl:=hR1.symm
 clear hR1
 refine bg (fun w hs=>⟨(lh (v:=oB.fs) Z2I rfl rfl) w hs,trivial⟩) ?_
 refine tk rfl (PE.build (out:=Z0l ⟨300,s46⟩) ZjQ Zg1 rfl rfl) rfl ?_
 refine bsl (out:=[_,_,_]) rfl Zk1 Zg1 rfl rfl rfl rfl rfl rfl (fun b48=>?_)
 refine bg (fun w hs=>⟨(lh (v:=oB.fs) Z2I rfl rfl) w hs,trivial⟩) ?_
 refine apO (oB) rfl Zj2 rfl rfl (ZU (row:=Z0l ⟨300,s46⟩) rfl) rfl rfl ((by simp only [brl,List.length_cons,List.length_nil];omega)) rfl (fun o49=>?_)
 refine bgT (tk rfl (PE.fA Z0o rfl) rfl ?_)
 refine ZB (l':=[.int .i64 (D:Int),o49.fs,Zl,Zl]) rfl rfl rfl ZjD rfl (by rw [o49.cells.1];first | done | rfl) (by rw [o49.cells.1];simp [o49.cells.2]) (by rw [o49.cells.1];first | done | rfl) (by rw [o49.cells.1];first | done | exact Nat.le_of_ble_eq_true rfl) ?_
 refine bgT (sqr 2 rfl (sp rfl (PE.add rfl rfl (by omega)) rfl (pur 1 rfl ?_)))
 exact Z7 ⟨⟨(k+1,bl++[⟨300,s46⟩],fs++[x35],tq2+1+1+1,m46),by dsimp only;omega,by dsimp only;rw [List.length_append,List.length_singleton];omega,hbn.more (by omega) hs46,by dsimp only;omega,by assumption⟩,o49.cast (by simp [Zf]),o40.cast (by simp [Z6])⟩ (fun w h=>(h.del b48).del b39)
 obtain rfl:nb=k:=by omega
 have hfl:fs.length=nb:=by rw [hbn.len];exact hbl
 have hfb:=Z8x (l:=fs) (K:=300) (by decide) (fun v hv=>by have:=hbn.v v hv;omega)
 obtain ⟨aF,kF,eF,hF⟩:=oF.freeze
 rw [irl,hfl] at eF
 obtain ⟨bb,cb,jb,e1,e2⟩:=OSl.ne oB (ne0 (by rw [brl];omega))
 rw [brl,hbl] at e1
 rw [e1,e2,eF]
 refine Sy.heap (H':=(bq,cel 111 [.slice a1q l1.length c1q,.int .i64 (tq2),.int .u32 (mx2)])::(bb,cel 62 ((Zf bl).flatten++jb))::(b12,cel 60 [.int .i64 (D:Int),.slice (some ⟨bb,0,none⟩) nb cb,Zl,Zl])::(b13,cel 89 [.slice aF nb kF,Zl])::(b11,cel 89 [Zl,Zl])::(b10,cel 60 [.int .i64 0,Zl,Zl,Zl])::H) (R':=RowsA aF 1 (Z6 fs)::R) (fun w h=>hF (h.perm (show List.Perm ((bq,cel 111 [.slice a1q l1.length c1q,.int .i64 (tq2),.int .u32 (mx2)])::([(bb,cel 62 ((Zf bl).flatten++jb))]++(oF.G++((b12,cel 60 [.int .i64 (D:Int),.slice (some ⟨bb,0,none⟩) nb cb,Zl,Zl])::(b13,cel 89 [.slice aF nb kF,Zl])::(b11,cel 89 [Zl,Zl])::(b10,cel 60 [.int .i64 0,Zl,Zl,Zl])::H)))) (oF.G++((bq,cel 111 [.slice a1q l1.length c1q,.int .i64 (tq2),.int .u32 (mx2)])::(bb,cel 62 ((Zf bl).flatten++jb))::((b12,cel 60 [.int .i64 (D:Int),.slice (some ⟨bb,0,none⟩) nb cb,Zl,Zl])::(b13,cel 89 [.slice aF nb kF,Zl])::(b11,cel 89 [Zl,Zl])::(b10,cel 60 [.int .i64 0,Zl,Zl,Zl])::H))) from Zo [(bq,cel 111 [.slice a1q l1.length c1q,.int .i64 (tq2),.int .u32 (mx2)]),(bb,cel 62 ((Zf bl).flatten++jb))] oF.G _))) ?_
 clear hF e1 e2 eF
 refine Z9 (Za (Za (Zh (sqt 5 rfl (pur 2 rfl (sp rfl (PE.add rfl rfl (by omega)) rfl ?_))))))
 refine cl rfl Z2L rfl rfl (Z0r l1 a1q c1q bq hl1 _ _ (by omega) (by assumption) (8+1) _ _) ?_
 rintro _ _ R1 ⟨x55,m55,hx55,rfl,hm55,rfl,hR1⟩
 obtain rfl:=hR1.symm
 clear hR1
 obtain ⟨many,rfl⟩:∃ n:Nat,x55=n:=⟨x55.toNat,by omega⟩
 refine pur 1 rfl (Z0 (sqt 2 rfl (pur 2 rfl (Z3 ?_))))
 have hbl2:bl.length=nb:=hbl
 refine Zb (ι:=(x:{x:Nat×List SMov×List Int×Int×Int // x.1≤many∧MvI D nb many fs x.1 x.2.1 x.2.2.1∧(tq≤x.2.2.2.1∧x.2.2.2.1≤tq+(15+6*x.1))∧(0≤x.2.2.2.2∧x.2.2.2.2≤4294967295)})×OSl 83 5 (Zn x.1.2.1)×OSl 3 1 (Z6 x.1.2.2.1)) (fun x=>⟨[(0,.pointer (some ⟨bq,0,none⟩)),(4,.int .i64 5),(10,.pointer (some ⟨b10,0,none⟩)),(11,.pointer (some ⟨b11,0,none⟩)),(12,.pointer (some ⟨b12,0,none⟩)),(13,.pointer (some ⟨b13,0,none⟩)),(15,.int .i64 (many:Int)),(56,.int .i64 (many:Int)),(57,.int .i64 (x.1.1.1:Int))],(bq,cel 111 [.slice a1q l1.length c1q,.int .i64 (x.1.1.2.2.2.1),.int .u32 (x.1.1.2.2.2.2)])::(x.2.1.G++(x.2.2.G++((bb,cel 62 ((Zf bl).flatten++jb))::(b12,cel 60 [.int .i64 (D:Int),.slice (some ⟨bb,0,none⟩) nb cb,x.2.1.fs,Zl])::(b13,cel 89 [.slice aF nb kF,x.2.2.fs])::(b11,cel 89 [Zl,Zl])::(b10,cel 60 [.int .i64 0,Zl,Zl,Zl])::H))),RowsA aF 1 (Z6 fs)::R⟩) (fun x=>many-x.1.1.1) ⟨⟨(0,[],[],tq2+1,m55),Nat.zero_le _,MvI.start hfb,by dsimp only;omega,by assumption⟩,OSl.nil _ _,OSl.nil _ _⟩ ?_ (fun x=>?_)
 exact Ze idH
 obtain ⟨⟨⟨i,mv,am,tq3,mx3⟩,hi,hmv,htq3,hmx3⟩,oM,oA⟩:=x
 dsimp only at hi hmv htq3 hmx3 oM oA ⊢
 have hmi:=hmv.l1
 have hai:=hmv.l2
 have hab:=Z8x (l:=am) (K:=300) (by decide) hmv.bd
 obtain ⟨aM,kM,eM⟩:=OSl.formN (n:=i) oM (by rw [mrl,hmi])
 obtain ⟨aA,kA,eA⟩:=OSl.formN (n:=i) oA (by rw [irl,hai,hmi])
 rw [eM,eA]
 refine sqt 1 rfl (pur 1 rfl (Z0 ?_))
 refine Z1 rfl ?_ ?_<;>intro hc1<;>try simp only [cS] at hc1
 obtain ⟨dy,hdy⟩:∃ d,d=((i:Int)*(D:Int)) / (many:Int):=⟨_,rfl⟩
 have hiD:0≤(i:Int)*(D:Int)∧(i:Int)*(D:Int)≤8*4:=⟨Int.mul_nonneg (by omega) (by omega),Int.mul_le_mul (by omega) (by omega) (by omega) (by omega)⟩
 have hdb:0≤dy∧dy<D:=by
   rw [hdy]
   refine ⟨Int.ediv_nonneg hiD.1 (by omega),Int.ediv_lt_of_lt_mul (by omega) ?_⟩
   have h9:((i:Int)+1)*(D:Int)≤(many:Int)*(D:Int):=Int.mul_le_mul_of_nonneg_right (by omega) (by omega)
   rw [Int.add_mul,Int.one_mul] at h9
   rw [Int.mul_comm (D:Int)]
   omega
 refine Z2 (Z0 (Z3 (sqt 2 rfl (pur 2 rfl (Z0 ?_)))))
 refine Z4G (ι:={x:(Int×Int)×Nat×Int×Int // ((-1≤x.1.1∧x.1.1<nb)∧(-1≤x.1.2∧x.1.2<nb))∧(tq≤x.2.2.1∧x.2.2.1≤tq+(17+6*i))∧(0≤x.2.2.2∧x.2.2.2≤4294967295)}) (fun x=>⟨[(0,.pointer (some ⟨bq,0,none⟩)),(4,.int .i64 5),(10,.pointer (some ⟨b10,0,none⟩)),(11,.pointer (some ⟨b11,0,none⟩)),(12,.pointer (some ⟨b12,0,none⟩)),(13,.pointer (some ⟨b13,0,none⟩)),(15,.int .i64 (many:Int)),(56,.int .i64 (many:Int)),(57,.int .i64 (i:Int)),(16,.int .i64 (i:Int)),(17,.pointer (some ⟨x.1.2.1,0,none⟩))],(x.1.2.1,cel 83 [.int .i64 dy,.int .i64 x.1.1.1,.int .i64 x.1.1.2,.int .i64 0,.int .i64 0])::(bq,cel 111 [.slice a1q l1.length c1q,.int .i64 (x.1.2.2.1),.int .u32 (x.1.2.2.2)])::(oM.G++(oA.G++((bb,cel 62 ((Zf bl).flatten++jb))::(b12,cel 60 [.int .i64 (D:Int),.slice (some ⟨bb,0,none⟩) nb cb,.slice aM i kM,Zl])::(b13,cel 89 [.slice aF nb kF,.slice aA i kA])::(b11,cel 89 [Zl,Zl])::(b10,cel 60 [.int .i64 0,Zl,Zl,Zl])::H))),RowsA aF 1 (Z6 fs)::R⟩) ?_ ?_
 refine Zd [0,0,2,7,0,31,0,0,128,384,896,1984,0,0,8192,24576,57344,131008,262143,0,1048575] (.tk 0 (.tk 1 (.ld 2 (tks 3 5 (.ld 8 (.tk 9 (.tk 10 (.tk 12 (.tk 13 (.ld 14 (.tk 15 (.tk 16 (.any (.alt 11 (.any (.alt 17 (.tk 18 (.big 19 (.big 20 .done))) (.alt 19 (.big 17 (.tk 18 (.big 20 .done))) .stop))) (.alt 19 (.big 11 (.big 17 (.tk 18 (.big 20 .done)))) .stop))))))))))))))) Zt (by kernel_rfl) ?_
 refine Zm 1 rfl (tk rfl (PE.fA Z18 rfl) rfl (ld rfl rfl (lh (v:=.int .i64 (D:Int)) sc3 rfl rfl) rfl (tk rfl (PE.mul rfl rfl (by omega)) rfl (Zm 1 rfl (tk rfl (PE.quo rfl rfl (by omega)) rfl (Zm 1 rfl (tk rfl (PE.fA Z0o rfl) rfl (ld rfl rfl (lh (v:=.slice (some ⟨bb,0,none⟩) nb cb) Z2I rfl rfl) rfl (tk rfl (PE.lenSl Z2R rfl) rfl (tk rfl (PE.sub rfl rfl (by omega)) rfl (Zm 1 rfl (tk rfl (PE.fA Z0o rfl) rfl (ld rfl rfl (lh (v:=.slice (some ⟨bb,0,none⟩) nb cb) Z2I rfl rfl) rfl (tk rfl (PE.lenSl Z2R rfl) rfl (tk rfl (PE.sub rfl rfl (by omega)) rfl ?_)))))))))))))))
 refine ZI ?_ ?_
 refine ZH bq ?_
 refine cl rfl Z79 rfl rfl (Z2v l1 a1q c1q bq hl1 _ _ (by omega) (by assumption) ((-1)) (((nb:Int)-1)) (by omega) _ _) ?_
 rintro _ _ R1 ⟨x71,m71,hx71,rfl,hm71,rfl,hR1⟩
 obtain rfl:=hR1.symm
 clear hR1
 refine bg (fun w hs=>⟨(lh (v:=.slice (some ⟨bb,0,none⟩) nb cb) Z2I rfl rfl) w hs,trivial,(lh (v:=.int .i64 (D:Int)) sc3 rfl rfl) w hs,trivial⟩) ?_
 refine ZI ?_ ?_
 refine ZH bq ?_
 refine cl rfl Z79 rfl rfl (Z2v l1 a1q c1q bq hl1 _ _ (by omega) (by assumption) ((-1)) (((nb:Int)-1)) (by omega) _ _) ?_
 rintro _ _ R1 ⟨x77,m77,hx77,rfl,hm77,rfl,hR1⟩
 obtain rfl:=hR1.symm
 clear hR1
 refine bg (fun w hs=>⟨trivial,(lh (v:=.int .i64 (D:Int)) sc3 rfl rfl) w hs,trivial⟩) ?_
 refine tk rfl (PE.build (out:=[.int .i64 (((i:Int)*(D:Int)) / (many:Int)),.int .i64 x71,.int .i64 x77,.int .i64 0,.int .i64 0]) ZjR Z7L rfl rfl) rfl (alc rfl Z7L rfl (fun b17=>?_))
 refine bg (fun w hs=>⟨(lh (v:=.int .i64 (D:Int)) sc3 rfl rfl) w hs,trivial⟩) ?_
 refine ZB (l':=[.int .i64 (((i:Int)*(D:Int)) / (many:Int)),.int .i64 x71,.int .i64 x77,.int .i64 0,.int .i64 0]) rfl rfl rfl ZcH rfl rfl rfl rfl (nl rfl) ?_
 rw [← hdy]
 refine bgT ?_
 exact Zu ⟨((x71,x77),b17,tq3+1+1,_),⟨by dsimp only;omega,by dsimp only;omega⟩,by dsimp only;omega,by assumption⟩ (fun w h=>(h.pull bq).pull b17)
 refine ZI ?_ ?_
 refine alc rfl Z7L rfl (fun b17=>?_)
 refine bg (fun w hs=>⟨(lh (v:=.slice (some ⟨bb,0,none⟩) nb cb) Z2I rfl rfl) w hs,(lh (v:=.int .i64 (D:Int)) sc3 rfl rfl) w hs,trivial⟩) ?_
 refine ZH bq ?_
 refine cl rfl Z79 rfl rfl (Z2v l1 a1q c1q bq hl1 _ _ (by omega) (by assumption) ((-1)) (((nb:Int)-1)) (by omega) _ _) ?_
 rintro _ _ R1 ⟨x77,m77,hx77,rfl,hm77,rfl,hR1⟩
 obtain rfl:=hR1.symm
 clear hR1
 refine bg (fun w hs=>⟨trivial,(lh (v:=.int .i64 (D:Int)) sc3 rfl rfl) w hs,trivial⟩) ?_
 refine tk rfl (PE.build (out:=[.int .i64 (((i:Int)*(D:Int)) / (many:Int)),.int .i64 x71,.int .i64 x77,.int .i64 0,.int .i64 0]) ZjR Z7L rfl rfl) rfl ?_
 refine ZB (l':=[.int .i64 (((i:Int)*(D:Int)) / (many:Int)),.int .i64 x71,.int .i64 x77,.int .i64 0,.int .i64 0]) rfl rfl rfl ZcH rfl rfl rfl rfl (nl rfl) ?_
 rw [← hdy]
 refine bgT ?_
 exact Zu ⟨((x71,x77),b17,tq3+1+1,_),⟨by dsimp only;omega,by dsimp only;omega⟩,by dsimp only;omega,by assumption⟩ (fun w h=>(h.pull bq).pull b17)
 exact Z0f
 refine ZI ?_ ?_
 refine alc rfl Z7L rfl (fun b17=>?_)
 refine bg (fun w hs=>⟨(lh (v:=.slice (some ⟨bb,0,none⟩) nb cb) Z2I rfl rfl) w hs,(lh (v:=.slice (some ⟨bb,0,none⟩) nb cb) Z2I rfl rfl) w hs,(lh (v:=.int .i64 (D:Int)) sc3 rfl rfl) w hs,trivial⟩) ?_
 refine ZH bq ?_
 refine cl rfl Z79 rfl rfl (Z2v l1 a1q c1q bq hl1 _ _ (by omega) (by assumption) ((-1)) (((nb:Int)-1)) (by omega) _ _) ?_
 rintro _ _ R1 ⟨x71,m71,hx71,rfl,hm71,rfl,hR1⟩
 obtain rfl:=hR1.symm
 clear hR1
 refine bg (fun w hs=>⟨(lh (v:=.slice (some ⟨bb,0,none⟩) nb cb) Z2I rfl rfl) w hs,trivial,(lh (v:=.int .i64 (D:Int)) sc3 rfl rfl) w hs,trivial⟩) ?_
 refine ZH bq ?_
 refine cl rfl Z79 rfl rfl (Z2v l1 a1q c1q bq hl1 _ _ (by omega) (by assumption) ((-1)) (((nb:Int)-1)) (by omega) _ _) ?_
 rintro _ _ R1 ⟨x77,m77,hx77,rfl,hm77,rfl,hR1⟩
 obtain rfl:=hR1.symm
 clear hR1
 refine bg (fun w hs=>⟨trivial,(lh (v:=.int .i64 (D:Int)) sc3 rfl rfl) w hs,trivial⟩) ?_
 refine tk rfl (PE.build (out:=[.int .i64 (((i:Int)*(D:Int)) / (many:Int)),.int .i64 x71,.int .i64 x77,.int .i64 0,.int .i64 0]) ZjR Z7L rfl rfl) rfl ?_
 refine ZB (l':=[.int .i64 (((i:Int)*(D:Int)) / (many:Int)),.int .i64 x71,.int .i64 x77,.int .i64 0,.int .i64 0]) rfl rfl rfl ZcH rfl rfl rfl rfl (nl rfl) ?_
 rw [← hdy]
 refine bgT ?_
 exact Zu ⟨((x71,x77),b17,tq3+1+1,_),⟨by dsimp only;omega,by dsimp only;omega⟩,by dsimp only;omega,by assumption⟩ (fun w h=>(h.pull bq).pull b17)
 exact Z0f
 rintro ⟨⟨⟨fr,to⟩,b17,tq4,mx4⟩,hrg,htq4,hmx4⟩
 dsimp only at hrg htq4 hmx4 ⊢
 refine Z0 (sqt 5 rfl (sp rfl (PE.fA Z0z rfl) rfl (spL rfl rfl (lh (v:=.int .i64 fr) sc3 rfl rfl) rfl (sp rfl (PE.fA Z1J rfl) rfl (spL rfl rfl (lh (v:=.int .i64 to) sc3 rfl rfl) rfl (pur 1 rfl ?_))))))
 refine Z22 (ι:={x:(Int×Int)×Int×Int // (((-1≤x.1.1∧x.1.1<nb)∧(-1≤x.1.2∧x.1.2<nb))∧x.1.1≠x.1.2)∧(tq≤x.2.1∧x.2.1≤tq+(18+6*i))∧(0≤x.2.2∧x.2.2≤4294967295)}) (fun x=>⟨[(0,.pointer (some ⟨bq,0,none⟩)),(4,.int .i64 5),(10,.pointer (some ⟨b10,0,none⟩)),(11,.pointer (some ⟨b11,0,none⟩)),(12,.pointer (some ⟨b12,0,none⟩)),(13,.pointer (some ⟨b13,0,none⟩)),(15,.int .i64 (many:Int)),(56,.int .i64 (many:Int)),(57,.int .i64 (i:Int)),(16,.int .i64 (i:Int)),(17,.pointer (some ⟨b17,0,none⟩))],(b17,cel 83 [.int .i64 dy,.int .i64 x.1.1.1,.int .i64 x.1.1.2,.int .i64 0,.int .i64 0])::(bq,cel 111 [.slice a1q l1.length c1q,.int .i64 (x.1.2.1),.int .u32 (x.1.2.2)])::(oM.G++(oA.G++((bb,cel 62 ((Zf bl).flatten++jb))::(b12,cel 60 [.int .i64 (D:Int),.slice (some ⟨bb,0,none⟩) nb cb,.slice aM i kM,Zl])::(b13,cel 89 [.slice aF nb kF,.slice aA i kA])::(b11,cel 89 [Zl,Zl])::(b10,cel 60 [.int .i64 0,Zl,Zl,Zl])::H))),RowsA aF 1 (Z6 fs)::R⟩) ?_ ?_
 refine Z1 rfl ?_ ?_<;>intro hc2<;>try simp only [cS] at hc2
 refine sqr 9 rfl (pur 1 rfl (sp rfl (PE.fA Z0o rfl) rfl (spL rfl rfl (lh (v:=.slice (some ⟨bb,0,none⟩) nb cb) Z2I rfl rfl) rfl (sp rfl (PE.lenSl Z2R rfl) rfl ?_))))
 refine ZH bq ?_
 refine cl rfl Z2L rfl rfl (Z0r l1 a1q c1q bq hl1 _ _ (by omega) (by assumption) ((nb:Int)) _ _) ?_
 rintro _ _ R1 ⟨x88,m88,hx88,rfl,hm88,rfl,hR1⟩
 obtain rfl:=hR1.symm
 clear hR1
 refine sp rfl (PE.fA Z0z rfl) rfl ?_
 refine ZB (l':=[.int .i64 dy,.int .i64 (-1),.int .i64 to,.int .i64 0,.int .i64 0]) rfl rfl rfl cn3 rfl rfl rfl rfl (nl rfl) ?_
 refine sp rfl (PE.fA Z1J rfl) rfl ?_
 refine ZB (l':=[.int .i64 dy,.int .i64 (-1),.int .i64 x88,.int .i64 0,.int .i64 0]) rfl rfl rfl cn3 rfl rfl rfl rfl (nl rfl) ?_
 exact ZY ⟨((-1,x88),tq4+1,m88),⟨⟨by dsimp only;omega,by dsimp only;omega⟩,by dsimp only;omega⟩,by dsimp only;omega,by assumption⟩ (fun w h=>h.pull b17)
 refine Z2 ?_
 exact ZY ⟨((fr,to),tq4,mx4),⟨hrg,by dsimp only;omega⟩,by dsimp only;omega,hmx4⟩ idH
 rintro ⟨⟨⟨fr,to⟩,tq5,mx5⟩,⟨hrg,hne⟩,htq5,hmx5⟩
 dsimp only at hrg hne htq5 hmx5 ⊢
 refine sqt 3 rfl (pur 1 rfl ?_)
 refine ZH bq ?_
 refine cl rfl Z2L rfl rfl (Z0r l1 a1q c1q bq hl1 _ _ (by omega) (by assumption) (40) _ _) ?_
 rintro _ _ R1 ⟨x92,m92,hx92,rfl,hm92,rfl,hR1⟩
 obtain rfl:=hR1.symm
 clear hR1
 refine pur 1 rfl (Z0 (sqt 3 rfl (sp rfl (PE.fA Z0z rfl) rfl (spL rfl rfl (lh (v:=.int .i64 fr) sc3 rfl rfl) rfl (pur 1 rfl ?_)))))
 refine Z22 (ι:={n:Int // 0≤n∧n<40}) (fun n=>⟨[(0,.pointer (some ⟨bq,0,none⟩)),(4,.int .i64 5),(10,.pointer (some ⟨b10,0,none⟩)),(11,.pointer (some ⟨b11,0,none⟩)),(12,.pointer (some ⟨b12,0,none⟩)),(13,.pointer (some ⟨b13,0,none⟩)),(15,.int .i64 (many:Int)),(56,.int .i64 (many:Int)),(57,.int .i64 (i:Int)),(16,.int .i64 (i:Int)),(17,.pointer (some ⟨b17,0,none⟩)),(18,.int .i64 n.1)],(bq,cel 111 [.slice a1q l1.length c1q,.int .i64 (tq5+1),.int .u32 (m92)])::(b17,cel 83 [.int .i64 dy,.int .i64 fr,.int .i64 to,.int .i64 0,.int .i64 0])::(oM.G++(oA.G++((bb,cel 62 ((Zf bl).flatten++jb))::(b12,cel 60 [.int .i64 (D:Int),.slice (some ⟨bb,0,none⟩) nb cb,.slice aM i kM,Zl])::(b13,cel 89 [.slice aF nb kF,.slice aA i kA])::(b11,cel 89 [Zl,Zl])::(b10,cel 60 [.int .i64 0,Zl,Zl,Zl])::H))),RowsA aF 1 (Z6 fs)::R⟩) ?_ ?_
 refine Z1 rfl ?_ ?_<;>intro hc3<;>try simp only [cS] at hc3
 obtain ⟨q,rfl⟩:∃ q:Nat,fr=(q:Int):=⟨fr.toNat,by omega⟩
 have hcq:=hmv.con q (by omega) dy (by omega)
 refine sqr 10 rfl (pur 1 rfl (spL rfl rfl (lhA [.int .i64 (D:Int),.slice (some ⟨bb,0,none⟩) nb cb,.slice aM i kM,Zl] Z4P rfl (rest:=[]) rfl rfl) rfl (spL rfl rfl (lhA [.slice aF nb kF,.slice aA i kA] Zc5 rfl (rest:=[]) rfl rfl) rfl (sp rfl (PE.fA Z0z rfl) rfl (spL rfl rfl (lh (v:=.int .i64 (q:Int)) sc3 rfl rfl) rfl (sp rfl (PE.fA Z1U rfl) rfl (spL rfl rfl (lh (v:=.int .i64 dy) sc3 rfl rfl) rfl ?_)))))))
 refine clV rfl Z93 rfl rfl (Z6a fs mv am hmv.l2 (by omega) hfb hab (D:Int) (.slice (some ⟨bb,0,none⟩) nb cb) (Zl) aM aF aA kM kF kA q nb i hfl hmv.l1 (by omega) (dy) _ _ (RdR.own oM eM) RdR.fact (RdR.own oA eA)) ?_
 refine sp rfl (PE.min rfl rfl) rfl (pur 1 rfl ?_)
 exact ZY ⟨min x92 (con fs mv am q dy),by omega⟩ idH
 refine Z2 ?_
 exact ZY ⟨x92,by omega⟩ idH
 rintro ⟨n3,hn3⟩
 dsimp only at hn3 ⊢
 refine Z0 (sqt 3 rfl (sp rfl (PE.fA Z1J rfl) rfl (spL rfl rfl (lh (v:=.int .i64 to) sc3 rfl rfl) rfl (pur 1 rfl ?_))))
 refine Z22 (ι:={n:Int // (0≤n∧n<40)∧∀ b:Nat,b<nb→to=(b:Int)→n≤300-con fs mv am b (dy+1)}) (fun n=>⟨[(0,.pointer (some ⟨bq,0,none⟩)),(4,.int .i64 5),(10,.pointer (some ⟨b10,0,none⟩)),(11,.pointer (some ⟨b11,0,none⟩)),(12,.pointer (some ⟨b12,0,none⟩)),(13,.pointer (some ⟨b13,0,none⟩)),(15,.int .i64 (many:Int)),(56,.int .i64 (many:Int)),(57,.int .i64 (i:Int)),(16,.int .i64 (i:Int)),(17,.pointer (some ⟨b17,0,none⟩)),(18,.int .i64 n.1)],(bq,cel 111 [.slice a1q l1.length c1q,.int .i64 (tq5+1),.int .u32 (m92)])::(b17,cel 83 [.int .i64 dy,.int .i64 fr,.int .i64 to,.int .i64 0,.int .i64 0])::(oM.G++(oA.G++((bb,cel 62 ((Zf bl).flatten++jb))::(b12,cel 60 [.int .i64 (D:Int),.slice (some ⟨bb,0,none⟩) nb cb,.slice aM i kM,Zl])::(b13,cel 89 [.slice aF nb kF,.slice aA i kA])::(b11,cel 89 [Zl,Zl])::(b10,cel 60 [.int .i64 0,Zl,Zl,Zl])::H))),RowsA aF 1 (Z6 fs)::R⟩) ?_ ?_
 refine Z1 rfl ?_ ?_<;>intro hc4<;>try simp only [cS] at hc4
 obtain ⟨q,rfl⟩:∃ q:Nat,to=(q:Int):=⟨to.toNat,by omega⟩
 have hcq:=hmv.con q (by omega) (dy+1) (by omega)
 refine sqr 12 rfl (pur 1 rfl (spL rfl rfl (lhA [.int .i64 (D:Int),.slice (some ⟨bb,0,none⟩) nb cb,.slice aM i kM,Zl] Z4P rfl (rest:=[]) rfl rfl) rfl (spL rfl rfl (lhA [.slice aF nb kF,.slice aA i kA] Zc5 rfl (rest:=[]) rfl rfl) rfl (sp rfl (PE.fA Z1J rfl) rfl (spL rfl rfl (lh (v:=.int .i64 (q:Int)) sc3 rfl rfl) rfl (sp rfl (PE.fA Z1U rfl) rfl (spL rfl rfl (lh (v:=.int .i64 dy) sc3 rfl rfl) rfl (sp rfl (PE.add rfl rfl (by omega)) rfl ?_))))))))
 refine clV rfl Z93 rfl rfl (Z6a fs mv am hmv.l2 (by omega) hfb hab (D:Int) (.slice (some ⟨bb,0,none⟩) nb cb) (Zl) aM aF aA kM kF kA q nb i hfl hmv.l1 (by omega) (dy+1) _ _ (RdR.own oM eM) RdR.fact (RdR.own oA eA)) ?_
 refine sp rfl (PE.sub rfl rfl (by omega)) rfl (sp rfl (PE.min rfl rfl) rfl (pur 1 rfl ?_))
 exact ZY ⟨min n3 (300-con fs mv am q (dy+1)),by omega,fun b hb e=>by have e9:q=b:=(by omega);rw [← e9];omega⟩ idH
 refine Z2 ?_
 exact ZY ⟨n3,hn3,fun b hb e=>by omega⟩ idH
 rintro ⟨n4,hn4,hlf4⟩
 dsimp only at hn4 hlf4 ⊢
 refine Z0 (sqt 4 rfl (sp rfl (PE.fA Z0H rfl) rfl (spL rfl rfl (lh (v:=.slice aM i kM) Z6M rfl rfl) rfl (sp rfl (PE.lenSl Z6z rfl) rfl (pur 1 rfl (Z3 ?_))))))
 refine Zb (ι:={x:Nat×Int // x.1≤i∧(-1000≤x.2∧x.2<40)∧∀ b:Nat,b<nb→to=(b:Int)→x.2≤300-con fs mv am b (dy+1)}) (fun x=>⟨[(0,.pointer (some ⟨bq,0,none⟩)),(4,.int .i64 5),(10,.pointer (some ⟨b10,0,none⟩)),(11,.pointer (some ⟨b11,0,none⟩)),(12,.pointer (some ⟨b12,0,none⟩)),(13,.pointer (some ⟨b13,0,none⟩)),(15,.int .i64 (many:Int)),(56,.int .i64 (many:Int)),(57,.int .i64 (i:Int)),(16,.int .i64 (i:Int)),(17,.pointer (some ⟨b17,0,none⟩)),(18,.int .i64 x.1.2),(120,.slice aM i kM),(121,.int .i64 (i:Int)),(122,.int .i64 (x.1.1:Int))],(bq,cel 111 [.slice a1q l1.length c1q,.int .i64 (tq5+1),.int .u32 (m92)])::(b17,cel 83 [.int .i64 dy,.int .i64 fr,.int .i64 to,.int .i64 0,.int .i64 0])::(oM.G++(oA.G++((bb,cel 62 ((Zf bl).flatten++jb))::(b12,cel 60 [.int .i64 (D:Int),.slice (some ⟨bb,0,none⟩) nb cb,.slice aM i kM,Zl])::(b13,cel 89 [.slice aF nb kF,.slice aA i kA])::(b11,cel 89 [Zl,Zl])::(b10,cel 60 [.int .i64 0,Zl,Zl,Zl])::H))),RowsA aF 1 (Z6 fs)::R⟩) (fun x=>i-x.1.1) ⟨(0,n4),Nat.zero_le _,by dsimp only;omega,hlf4⟩ ?_ (fun x=>?_)
 exact Ze idH
 obtain ⟨⟨k8,n8⟩,hk8,hn8,hlf8⟩:=x
 dsimp only at hk8 hn8 hlf8 ⊢
 refine sqt 1 rfl (pur 1 rfl (Z0 ?_))
 refine Z1 rfl ?_ ?_<;>intro hc5<;>try simp only [cS] at hc5
 obtain ⟨m8,hm8⟩:∃ x,mv[k8]?=some x:=⟨_,List.getElem?_eq_getElem (by omega)⟩
 refine ZbO (RdR.own oM eM) (ZK (Z2s hm8)) (fun bm om he=>?_)
 subst he
 refine Z2 (Z0 (Z3 (sqt 6 rfl (pur 1 rfl (sp rfl (PE.indexAddr Zfa rfl rfl (by omega) (by omega)) rfl (spL rfl rfl (lRA (RdR.own oM eM) Z9s (Z2s hm8) rfl) rfl (alc rfl Z7L rfl (fun b20=>pur 1 rfl ?_))))))))
 refine ZB (l':=Z07 m8) rfl rfl rfl ZcH rfl rfl rfl rfl (nl rfl) ?_
 refine sqt 17 rfl (sp rfl (PE.fA Z1U rfl) rfl (spL rfl rfl (lh (v:=.int .i64 m8.day) sc3 rfl rfl) rfl (sp rfl (PE.fA Z1U rfl) rfl (spL rfl rfl (lh (v:=.int .i64 dy) sc3 rfl rfl) rfl (pur 2 rfl ?_)))))
 refine Zw 132 rfl ?_ ?_<;>intro g132
 refine spG rfl rfl rfl rfl (PE.fA Z0z rfl) rfl ?_
 refine Z0U rfl rfl rfl rfl rfl (lh (v:=.int .i64 m8.fr) sc3 rfl rfl) rfl ?_
 refine spG rfl rfl rfl rfl (PE.fA Z0z rfl) rfl ?_
 refine Z0U rfl rfl rfl rfl rfl (lh (v:=.int .i64 fr) sc3 rfl rfl) rfl (pur 3 rfl ?_)
 refine Zw 139 rfl ?_ ?_<;>intro g139
 refine spG rfl rfl rfl rfl (PE.fA Z0z rfl) rfl ?_
 refine Z0U rfl rfl rfl rfl rfl (lh (v:=.int .i64 fr) sc3 rfl rfl) rfl (pur 2 rfl ?_)
 refine Z1 rfl ?_ ?_<;>intro hc6<;>try simp only [cS] at hc6
 obtain ⟨q,rfl⟩:∃ q:Nat,fr=(q:Int):=⟨fr.toNat,by omega⟩
 have hcq:=hmv.con q (by omega) dy (by omega)
 have hak:=hab k8
 refine ZbO (RdR.own oA eA) (ZK (ZQ (ZR (by omega:k8<am.length)))) (fun ba9 oa9 he=>?_)
 subst he
 refine Zd [0,0,0,0,8,0,32,126,0,256,0,1792,3840,8190,16383,32767] (.tk 0 (.ld 1 (.ld 2 (.tk 3 (.ld 4 (.tk 5 (.ld 6 (.tk 8 (.ld 9 (.tk 10 (.tk 11 (.ld 12 (.big 7 (tks 13 3 .done)))))))))))))) Zt (by kernel_rfl) ?_
 refine Zm 1 rfl (ld rfl rfl (lhA [.int .i64 (D:Int),.slice (some ⟨bb,0,none⟩) nb cb,.slice (some ⟨bm,om,none⟩) i kM,Zl] Z4P rfl (rest:=[]) rfl rfl) rfl (ld rfl rfl (lhA [.slice aF nb kF,.slice (some ⟨ba9,oa9,none⟩) i kA] Zc5 rfl (rest:=[]) rfl rfl) rfl (tk rfl (PE.fA Z0z rfl) rfl (ld rfl rfl (lh (v:=.int .i64 (q:Int)) sc3 rfl rfl) rfl (tk rfl (PE.fA Z1U rfl) rfl (ld rfl rfl (lh (v:=.int .i64 dy) sc3 rfl rfl) rfl (tk rfl (PE.fA Z4j rfl) rfl (ld rfl rfl (lh Z0x rfl rfl) rfl (Zm 1 rfl (tk rfl (PE.indexAddr Z0G rfl rfl (by omega) (by omega)) rfl (ld rfl rfl (lR0 (x:=.int .i64 (na am k8)) (RdR.own oA eA) sc3 (ZQ (ZR (k:=k8) (by omega))) rfl) rfl ?_)))))))))))
 refine clV rfl Z93 rfl rfl (Z6a fs mv am hmv.l2 (by omega) hfb hab (D:Int) (.slice (some ⟨bb,0,none⟩) nb cb) (Zl) (some ⟨bm,om,none⟩) aF (some ⟨ba9,oa9,none⟩) kM kF kA q nb i hfl hmv.l1 (by omega) (dy) _ _ (RdR.own oM eM) RdR.fact (RdR.own oA eA)) ?_
 refine bg (fun w hs=>⟨(lR0 (x:=.int .i64 (na am k8)) (RdR.own oA eA) sc3 (ZQ (ZR (k:=k8) (by omega))) rfl) w hs,(lh Z0x rfl rfl) w hs,trivial,trivial,trivial,trivial,trivial⟩) ?_
 refine tk rfl (PE.sub rfl rfl (by omega)) rfl (tk rfl (PE.min rfl rfl) rfl (Zm 1 rfl (sqr 2 rfl (sp rfl (PE.add rfl rfl (by omega)) rfl (pur 1 rfl ?_)))))
 exact Z7 ⟨(k8+1,min n8 (con fs mv am q dy-na am k8)),by dsimp only;omega,by dsimp only;omega,fun b hb e=>by have:=hlf8 b hb e;dsimp only;omega⟩ (fun w h=>h.del b20)
 refine Z2 (sqr 2 rfl (sp rfl (PE.add rfl rfl (by omega)) rfl (pur 1 rfl ?_)))
 exact Z7 ⟨(k8+1,n8),by dsimp only;omega,hn8,hlf8⟩ (fun w h=>h.del b20)
 refine pur 4 rfl ?_
 refine ZG rfl ?_
 refine Z2 (sqr 2 rfl (sp rfl (PE.add rfl rfl (by omega)) rfl (pur 1 rfl ?_)))
 exact Z7 ⟨(k8+1,n8),by dsimp only;omega,hn8,hlf8⟩ (fun w h=>h.del b20)
 refine pur 11 rfl ?_
 refine ZG rfl ?_
 refine Z2 (sqr 2 rfl (sp rfl (PE.add rfl rfl (by omega)) rfl (pur 1 rfl ?_)))
 exact Z7 ⟨(k8+1,n8),by dsimp only;omega,hn8,hlf8⟩ (fun w h=>h.del b20)
 refine Z9 (Za (Za (Zh (sqt 8 rfl (pur 1 rfl (spL rfl rfl (lhA [.int .i64 (D:Int),.slice (some ⟨bb,0,none⟩) nb cb,.slice aM i kM,Zl] Z4P rfl (rest:=[]) rfl rfl) rfl (spL rfl rfl (lhA [.slice aF nb kF,.slice aA i kA] Zc5 rfl (rest:=[]) rfl rfl) rfl (spL rfl rfl (lhA (Z07 ⟨dy,fr,to,⟨0,0⟩⟩) Z9s rfl (rest:=[]) rfl rfl) rfl ?_))))))))
 refine cl rfl Zjq rfl rfl (ZeS fs mv am hmv.l2 (by omega) hfb hab (D:Int) (.slice (some ⟨bb,0,none⟩) nb cb) Zl aM aF aA kM kF kA ⟨dy,fr,to,⟨0,0⟩⟩ nb i hfl hmv.l1 (by dsimp only;omega) (by dsimp only;omega) _ _ (RdR.own oM eM) RdR.fact (RdR.own oA eA)) ?_
 rintro _ _ R1 ⟨rfl,rfl,hR1⟩
 obtain rfl:=hR1.symm
 clear hR1
 obtain ⟨lf,hlf⟩:∃ l,l=(if fr = -1 then 300 else con fs mv am fr.toNat (dy+1)):=⟨_,rfl⟩
 rw [show (if ((⟨dy,fr,to,⟨0,0⟩⟩:SMov)).fr = -1 then 300 else con fs mv am ((⟨dy,fr,to,⟨0,0⟩⟩:SMov)).fr.toNat (((⟨dy,fr,to,⟨0,0⟩⟩:SMov)).day+1))=lf from hlf.symm]
 have hlf2:0≤lf∧∀ b:Nat,b<nb→fr=(b:Int)→lf=con fs mv am b (dy+1):=by
   rw [hlf]
   refine ⟨?_,fun b hb e=>by rw [if_neg (by omega),e];rfl⟩
   split
   · decide
   · exact (hmv.con fr.toNat (by omega) (dy+1) (by omega)).1
 refine sp rfl (PE.min rfl rfl) rfl (sp rfl (PE.max rfl rfl) rfl (pur 1 rfl (sqt 5 rfl ?_)))
 obtain ⟨n9,hn9⟩:∃ n,n=max 0 (min n8 lf):=⟨_,rfl⟩
 rw [← hn9]
 refine pur 2 rfl ?_
 refine ZH bq ?_
 refine cl rfl ZeY rfl rfl (Zad l1 a1q c1q hl1 bq _ _ (by omega) (by assumption) (n9) 15 (by omega) (by omega) _ _) ?_
 rintro _ _ R1 ⟨s169,m169,hs169,hm169,rfl,rfl,hR1⟩
 obtain rfl:=hR1.symm
 clear hR1
 refine sp rfl (PE.fA Z6v rfl) rfl ?_
 refine ZB (l':=Z07 ⟨dy,fr,to,s169⟩) rfl rfl rfl ZhL rfl rfl rfl rfl (nl rfl) ?_
 refine Zd [0,1,0,4,15,0,32,0,128,511,31,2047,4095,8191] (.tk 0 (.ld 1 (.ld 2 (.tk 5 (.ld 6 (.tk 7 (.any (.alt 3 (.any (.alt 4 (.tk 10 (.big 8 (.big 9 (.big 11 (.tk 12 (.big 13 .done)))))) (.alt 8 (.big 4 (.tk 10 (.big 9 (.big 11 (.tk 12 (.big 13 .done)))))) .stop))) (.alt 8 (.big 3 (.big 4 (.tk 10 (.big 9 (.big 11 (.tk 12 (.big 13 .done))))))) .stop))))))))) Zt (by kernel_rfl) ?_
 rw [← eM,← eA]
 refine tk rfl (PE.fA Z0H rfl) rfl (ld rfl rfl (lh (v:=oM.fs) Z6M rfl rfl) rfl (ld rfl rfl (lhA (Z07 ⟨dy,fr,to,s169⟩) Z9s rfl (rest:=[]) rfl rfl) rfl (tk rfl (PE.fA Z4j rfl) rfl (ld rfl rfl (lh (v:=oA.fs) Z0x rfl rfl) rfl (Zm 1 rfl ?_)))))
 refine ZI ?_ ?_
 refine bsl (out:=[_,_,_,_,_]) rfl ZiR Z7L rfl rfl rfl rfl rfl rfl (fun b174=>?_)
 refine bg (fun w hs=>⟨(lh (v:=oA.fs) Z0x rfl rfl) w hs,trivial,(lh (v:=oM.fs) Z6M rfl rfl) w hs,trivial⟩) ?_
 refine ZI ?_ ?_
 refine apO (oM) rfl Zg8 rfl rfl (ZU (row:=Z07 ⟨dy,fr,to,s169⟩) rfl) rfl rfl ((by simp only [mrl,List.length_cons,List.length_nil];omega)) rfl (fun o175=>?_)
 refine bg (fun w hs=>⟨(lh (v:=oA.fs) Z0x rfl rfl) w hs,trivial,trivial⟩) ?_
 refine tk rfl (PE.fA Z0H rfl) rfl ?_
 refine bsl (out:=[_]) rfl Z0F zl3 rfl rfl rfl rfl rfl rfl (fun b179=>?_)
 refine bg (fun w hs=>⟨(lh (v:=oA.fs) Z0x rfl rfl) w hs,trivial⟩) ?_
 refine apO (oA) rfl Z37 rfl rfl (ZU (row:=[.int .i64 n9]) rfl) rfl rfl ((by simp only [irl,List.length_cons,List.length_nil];omega)) rfl (fun o180=>?_)
 refine bgT ?_
 refine ZB (l':=[.int .i64 (D:Int),.slice (some ⟨bb,0,none⟩) nb cb,o175.fs,Zl]) rfl rfl rfl ZhM rfl (by rw [o175.cells.1];first | done | rfl) (by rw [o175.cells.1];simp [o175.cells.2]) (by rw [o175.cells.1];first | done | rfl) (by rw [o175.cells.1];first | done | exact Nat.le_of_ble_eq_true rfl) ?_
 refine bgT (tk rfl (PE.fA Z4j rfl) rfl ?_)
 refine ZB (l':=[.slice aF nb kF,o180.fs]) rfl rfl rfl Z6g rfl (by rw [o180.cells.1];first | done | rfl) (by rw [o180.cells.1];simp [o180.cells.2]) (by rw [o180.cells.1];first | done | rfl) (by rw [o180.cells.1];first | done | exact Nat.le_of_ble_eq_true rfl) ?_
 refine bgT (sqr 2 rfl (sp rfl (PE.add rfl rfl (by omega)) rfl (pur 1 rfl ?_)))
 exact Z7 ⟨⟨(i+1,mv++[⟨dy,fr,to,s169⟩],am++[n9],tq5+1+1+1,m169),by dsimp only;omega,hmv.more (by omega) hdy ⟨hdb,hrg.1,hrg.2,hne,hs169.1⟩ hs169.2 (by omega) (fun b hb e=>by have:=hlf2.2 b hb e;dsimp only;omega) (fun b hb e=>by have:=hlf8 b hb e;have:=(hmv.con b hb (dy+1) (by omega)).2;dsimp only;omega),by dsimp only;omega,by assumption⟩,o175.cast (by simp [Zn]),o180.cast (by simp [Z6])⟩ (fun w h=>((h.del b179).del b174).del b17)
 refine ZI ?_ ?_
 refine bsl (out:=[_]) rfl Z0F zl3 rfl rfl rfl rfl rfl rfl (fun b179=>?_)
 refine bg (fun w hs=>⟨(lh (v:=oA.fs) Z0x rfl rfl) w hs,(lh (v:=oM.fs) Z6M rfl rfl) w hs,trivial⟩) ?_
 refine apO (oM) rfl Zg8 rfl rfl (ZU (row:=Z07 ⟨dy,fr,to,s169⟩) rfl) rfl rfl ((by simp only [mrl,List.length_cons,List.length_nil];omega)) rfl (fun o175=>?_)
 refine bg (fun w hs=>⟨(lh (v:=oA.fs) Z0x rfl rfl) w hs,trivial,trivial⟩) ?_
 refine tk rfl (PE.fA Z0H rfl) rfl ?_
 refine apO (oA) rfl Z37 rfl rfl (ZU (row:=[.int .i64 n9]) rfl) rfl rfl ((by simp only [irl,List.length_cons,List.length_nil];omega)) rfl (fun o180=>?_)
 refine bgT ?_
 refine ZB (l':=[.int .i64 (D:Int),.slice (some ⟨bb,0,none⟩) nb cb,o175.fs,Zl]) rfl rfl rfl ZhM rfl (by rw [o175.cells.1];first | done | rfl) (by rw [o175.cells.1];simp [o175.cells.2]) (by rw [o175.cells.1];first | done | rfl) (by rw [o175.cells.1];first | done | exact Nat.le_of_ble_eq_true rfl) ?_
 refine bgT (tk rfl (PE.fA Z4j rfl) rfl ?_)
 refine ZB (l':=[.slice aF nb kF,o180.fs]) rfl rfl rfl Z6g rfl (by rw [o180.cells.1];first | done | rfl) (by rw [o180.cells.1];simp [o180.cells.2]) (by rw [o180.cells.1];first | done | rfl) (by rw [o180.cells.1];first | done | exact Nat.le_of_ble_eq_true rfl) ?_
 refine bgT (sqr 2 rfl (sp rfl (PE.add rfl rfl (by omega)) rfl (pur 1 rfl ?_)))
 exact Z7 ⟨⟨(i+1,mv++[⟨dy,fr,to,s169⟩],am++[n9],tq5+1+1+1,m169),by dsimp only;omega,hmv.more (by omega) hdy ⟨hdb,hrg.1,hrg.2,hne,hs169.1⟩ hs169.2 (by omega) (fun b hb e=>by have:=hlf2.2 b hb e;dsimp only;omega) (fun b hb e=>by have:=hlf8 b hb e;have:=(hmv.con b hb (dy+1) (by omega)).2;dsimp only;omega),by dsimp only;omega,by assumption⟩,o175.cast (by simp [Zn]),o180.cast (by simp [Z6])⟩ (fun w h=>((h.del b179).del b174).del b17)
 exact Z0f
 refine ZI ?_ ?_
 refine bsl (out:=[_]) rfl Z0F zl3 rfl rfl rfl rfl rfl rfl (fun b179=>?_)
 refine bg (fun w hs=>⟨(lh (v:=oA.fs) Z0x rfl rfl) w hs,(lhA (Z07 ⟨dy,fr,to,s169⟩) Z9s rfl (rest:=[]) rfl rfl) w hs,(lh (v:=oM.fs) Z6M rfl rfl) w hs,trivial⟩) ?_
 refine bsl (out:=[_,_,_,_,_]) rfl ZiR Z7L rfl rfl rfl rfl rfl rfl (fun b174=>?_)
 refine bg (fun w hs=>⟨(lh (v:=oA.fs) Z0x rfl rfl) w hs,trivial,(lh (v:=oM.fs) Z6M rfl rfl) w hs,trivial⟩) ?_
 refine apO (oM) rfl Zg8 rfl rfl (ZU (row:=Z07 ⟨dy,fr,to,s169⟩) rfl) rfl rfl ((by simp only [mrl,List.length_cons,List.length_nil];omega)) rfl (fun o175=>?_)
 refine bg (fun w hs=>⟨(lh (v:=oA.fs) Z0x rfl rfl) w hs,trivial,trivial⟩) ?_
 refine tk rfl (PE.fA Z0H rfl) rfl ?_
 refine apO (oA) rfl Z37 rfl rfl (ZU (row:=[.int .i64 n9]) rfl) rfl rfl ((by simp only [irl,List.length_cons,List.length_nil];omega)) rfl (fun o180=>?_)
 refine bgT ?_
 refine ZB (l':=[.int .i64 (D:Int),.slice (some ⟨bb,0,none⟩) nb cb,o175.fs,Zl]) rfl rfl rfl ZhM rfl (by rw [o175.cells.1];first | done | rfl) (by rw [o175.cells.1];simp [o175.cells.2]) (by rw [o175.cells.1];first | done | rfl) (by rw [o175.cells.1];first | done | exact Nat.le_of_ble_eq_true rfl) ?_
 refine bgT (tk rfl (PE.fA Z4j rfl) rfl ?_)
 refine ZB (l':=[.slice aF nb kF,o180.fs]) rfl rfl rfl Z6g rfl (by rw [o180.cells.1];first | done | rfl) (by rw [o180.cells.1];simp [o180.cells.2]) (by rw [o180.cells.1];first | done | rfl) (by rw [o180.cells.1];first | done | exact Nat.le_of_ble_eq_true rfl) ?_
 refine bgT (sqr 2 rfl (sp rfl (PE.add rfl rfl (by omega)) rfl (pur 1 rfl ?_)))
 exact Z7 ⟨⟨(i+1,mv++[⟨dy,fr,to,s169⟩],am++[n9],tq5+1+1+1,m169),by dsimp only;omega,hmv.more (by omega) hdy ⟨hdb,hrg.1,hrg.2,hne,hs169.1⟩ hs169.2 (by omega) (fun b hb e=>by have:=hlf2.2 b hb e;dsimp only;omega) (fun b hb e=>by have:=hlf8 b hb e;have:=(hmv.con b hb (dy+1) (by omega)).2;dsimp only;omega),by dsimp only;omega,by assumption⟩,o175.cast (by simp [Zn]),o180.cast (by simp [Z6])⟩ (fun w h=>((h.del b179).del b174).del b17)
 exact Z0f
 obtain rfl:many=i:=by omega
 obtain ⟨_,_,eM2,hM⟩:=oM.freeze
 rw [mrl,hmi,eM] at eM2
 cases eM2
 obtain ⟨_,_,eA2,hA⟩:=oA.freeze
 rw [irl,hai,hmi,eA] at eA2
 cases eA2
 refine Sy.heap (H':=(bq,cel 111 [.slice a1q l1.length c1q,.int .i64 (tq3),.int .u32 (mx3)])::(bb,cel 62 ((Zf bl).flatten++jb))::(b12,cel 60 [.int .i64 (D:Int),.slice (some ⟨bb,0,none⟩) nb cb,.slice aM many kM,Zl])::(b13,cel 89 [.slice aF nb kF,.slice aA many kA])::(b11,cel 89 [Zl,Zl])::(b10,cel 60 [.int .i64 0,Zl,Zl,Zl])::H) (R':=RowsA aM 5 (Zn mv)::RowsA aA 1 (Z6 am)::RowsA aF 1 (Z6 fs)::R) (fun w h=>hM ((hA (h.perm (show List.Perm ((bq,cel 111 [.slice a1q l1.length c1q,.int .i64 (tq3),.int .u32 (mx3)])::(oM.G++(oA.G++((bb,cel 62 ((Zf bl).flatten++jb))::(b12,cel 60 [.int .i64 (D:Int),.slice (some ⟨bb,0,none⟩) nb cb,.slice aM many kM,Zl])::(b13,cel 89 [.slice aF nb kF,.slice aA many kA])::(b11,cel 89 [Zl,Zl])::(b10,cel 60 [.int .i64 0,Zl,Zl,Zl])::H)))) (oA.G++((bq,cel 111 [.slice a1q l1.length c1q,.int .i64 (tq3),.int .u32 (mx3)])::(oM.G++((bb,cel 62 ((Zf bl).flatten++jb))::(b12,cel 60 [.int .i64 (D:Int),.slice (some ⟨bb,0,none⟩) nb cb,.slice aM many kM,Zl])::(b13,cel 89 [.slice aF nb kF,.slice aA many kA])::(b11,cel 89 [Zl,Zl])::(b10,cel 60 [.int .i64 0,Zl,Zl,Zl])::H)))) from (List.Perm.cons _ (Zo _ _ _)).trans (Zo [_] oA.G _)))).perm (Zo [_] oM.G _))) ?_
 clear hM hA eM eA
 have hhl:HlI D nb fs mv am bl:=⟨hbl2,fun k x hx=>by
   have h1:=hbn.b k x hx
   refine ⟨by omega,h1.2,fun t h2 h3=>?_⟩
   have:=(hmv.con k (by have h9:k<bl.length:=(List.getElem?_eq_some_iff.1 hx).1;omega) t h2).2
   omega⟩
 refine Z9 (Za (Za (Zh (Z0 (sqt 4 rfl (sp rfl (PE.fA Z0o rfl) rfl (spL rfl rfl (lh (v:=.slice (some ⟨bb,0,none⟩) nb cb) Z2I rfl rfl) rfl (sp rfl (PE.lenSl Z2R rfl) rfl (pur 1 rfl (Z3 ?_))))))))))
 refine Zb (ι:={x:Nat×List SBin×Int×Int // x.1≤nb∧HlI D nb fs mv am x.2.1∧(tq≤x.2.2.1∧x.2.2.1≤tq+(63+x.1))∧(0≤x.2.2.2∧x.2.2.2≤4294967295)}) (fun x=>⟨[(0,.pointer (some ⟨bq,0,none⟩)),(4,.int .i64 5),(10,.pointer (some ⟨b10,0,none⟩)),(11,.pointer (some ⟨b11,0,none⟩)),(12,.pointer (some ⟨b12,0,none⟩)),(13,.pointer (some ⟨b13,0,none⟩)),(185,.slice (some ⟨bb,0,none⟩) nb cb),(186,.int .i64 (nb:Int)),(187,.int .i64 (x.1.1:Int))],(bq,cel 111 [.slice a1q l1.length c1q,.int .i64 (x.1.2.2.1),.int .u32 (x.1.2.2.2)])::(bb,cel 62 ((Zf x.1.2.1).flatten++jb))::(b12,cel 60 [.int .i64 (D:Int),.slice (some ⟨bb,0,none⟩) nb cb,.slice aM many kM,Zl])::(b13,cel 89 [.slice aF nb kF,.slice aA many kA])::(b11,cel 89 [Zl,Zl])::(b10,cel 60 [.int .i64 0,Zl,Zl,Zl])::H,RowsA aM 5 (Zn mv)::RowsA aA 1 (Z6 am)::RowsA aF 1 (Z6 fs)::R⟩) (fun x=>nb-x.1.1) ⟨(0,bl,tq3,mx3),Nat.zero_le _,hhl,by dsimp only;omega,hmx3⟩ ?_ (fun x=>?_)
 exact Ze idH
 obtain ⟨⟨b,bl2,tq6,mx6⟩,hb,hhl2,htq6,hmx6⟩:=x
 dsimp only at hb hhl2 htq6 hmx6 ⊢
 refine sqt 1 rfl (pur 1 rfl (Z0 ?_))
 refine Z1 rfl ?_ ?_<;>intro hc7<;>try simp only [cS] at hc7
 obtain ⟨x9,hx9⟩:∃ x,bl2[b]?=some x:=⟨_,List.getElem?_eq_getElem (by rw [hhl2.len];omega)⟩
 refine Z2 (Z0 (Z3 (sqt 2 rfl (pur 2 rfl (sqt 1 rfl (pur 1 rfl (Z0 (sqt 4 rfl (sp rfl (PE.fA Z18 rfl) rfl (spL rfl rfl (lh (v:=.int .i64 (D:Int)) sc3 rfl rfl) rfl (sp rfl (PE.add rfl rfl (by omega)) rfl (pur 1 rfl (Z3 ?_)))))))))))))
 refine Zb (ι:={x:Nat×Int // x.1≤D+1∧(0≤x.2∧x.2≤300)∧∀ t:Int,0≤t→t<x.1→con fs mv am b t≤x.2}) (fun x=>⟨[(0,.pointer (some ⟨bq,0,none⟩)),(4,.int .i64 5),(10,.pointer (some ⟨b10,0,none⟩)),(11,.pointer (some ⟨b11,0,none⟩)),(12,.pointer (some ⟨b12,0,none⟩)),(13,.pointer (some ⟨b13,0,none⟩)),(21,.int .i64 (b:Int)),(22,.int .i64 x.1.2),(185,.slice (some ⟨bb,0,none⟩) nb cb),(186,.int .i64 (nb:Int)),(187,.int .i64 (b:Int)),(192,.int .i64 ((D:Int)+1)),(193,.int .i64 (x.1.1:Int))],(bq,cel 111 [.slice a1q l1.length c1q,.int .i64 (tq6),.int .u32 (mx6)])::(bb,cel 62 ((Zf bl2).flatten++jb))::(b12,cel 60 [.int .i64 (D:Int),.slice (some ⟨bb,0,none⟩) nb cb,.slice aM many kM,Zl])::(b13,cel 89 [.slice aF nb kF,.slice aA many kA])::(b11,cel 89 [Zl,Zl])::(b10,cel 60 [.int .i64 0,Zl,Zl,Zl])::H,RowsA aM 5 (Zn mv)::RowsA aA 1 (Z6 am)::RowsA aF 1 (Z6 fs)::R⟩) (fun x=>D+1-x.1.1) ⟨(0,0),by dsimp only;omega,by dsimp only;omega,fun t h1 h2=>by dsimp only at h2;omega⟩ ?_ (fun x=>?_)
 exact Ze idH
 obtain ⟨⟨t,mo⟩,ht,hmo,hmt⟩:=x
 dsimp only at ht hmo hmt ⊢
 refine sqt 1 rfl (pur 1 rfl (Z0 ?_))
 refine Z1 rfl ?_ ?_<;>intro hc8<;>try simp only [cS] at hc8
 have hct:=hmv.con b (by omega) (t:Int) (by omega)
 refine Z2 (Z0 (Z3 (sqt 2 rfl (pur 2 rfl (sqr 8 rfl (pur 1 rfl (spL rfl rfl (lhA [.int .i64 (D:Int),.slice (some ⟨bb,0,none⟩) nb cb,.slice aM many kM,Zl] Z4P rfl (rest:=[]) rfl rfl) rfl (spL rfl rfl (lhA [.slice aF nb kF,.slice aA many kA] Zc5 rfl (rest:=[]) rfl rfl) rfl (pur 2 rfl ?_)))))))))
 refine clV rfl Z93 rfl rfl (Z6a fs mv am hmv.l2 (by omega) hfb hab (D:Int) (.slice (some ⟨bb,0,none⟩) nb cb) (Zl) aM aF aA kM kF kA b nb many hfl hmv.l1 (by omega) ((t:Int)) _ _ RdR.fact RdR.fact RdR.fact) ?_
 refine sp rfl (PE.max rfl rfl) rfl (pur 1 rfl (sqr 2 rfl (sp rfl (PE.add rfl rfl (by omega)) rfl (pur 1 rfl ?_))))
 exact ZC ⟨(t+1,max mo (con fs mv am b (t:Int))),by dsimp only;omega,by dsimp only;omega,fun q h1 h2=>by
   dsimp only at h2 ⊢
   by_cases e:q=(t:Int)
   · rw [e];omega
   · have:=hmt q h1 (by omega);omega⟩ (by dsimp only;omega) sbA idH
 obtain rfl:t=D+1:=by omega
 refine Z9 (Za (Za (Zh ?_)))
 refine Zd [0,1,0,0,0,16,56,120,255,511,1023] (.tk 0 (.ld 1 (tks 2 3 (.big 5 (tks 6 4 (.big 10 .done)))))) Zt (by kernel_rfl) ?_
 refine tk rfl (PE.fA Z0o rfl) rfl (ld rfl rfl (lh (v:=.slice (some ⟨bb,0,none⟩) nb cb) Z2I rfl rfl) rfl (Zm 3 rfl ?_))
 refine ZH bq ?_
 refine cl rfl Z2L rfl rfl (Z0r l1 a1q c1q bq hl1 _ _ (by omega) (by assumption) (30) _ _) ?_
 rintro _ _ R1 ⟨x209,m209,hx209,rfl,hm209,rfl,hR1⟩
 obtain rfl:=hR1.symm
 clear hR1
 refine bg (fun w hs=>⟨(lh (v:=.slice (some ⟨bb,0,none⟩) nb cb) Z2I rfl rfl) w hs,trivial⟩) ?_
 refine tk rfl (PE.add rfl rfl (by omega)) rfl (tk rfl (PE.min rfl rfl) rfl (tk rfl (PE.indexAddr ZhS rfl rfl (by omega) (by omega)) rfl (tk rfl (PE.fA Z8f rfl) rfl ?_)))
 refine ZB (l':=(Zf (bl2.set b ⟨min 300 (mo+x209),x9.fst⟩)).flatten++jb) rfl rfl rfl cn3 rfl rfl rfl (Z9F hx9 (by show 0+((b:Nat):Int).toNat*3+0=_;omega)) (by rw [List.length_append,ZeG,hhl2.len];show 0+((b:Nat):Int).toNat*3+0+1≤_;omega) ?_
 refine bgT (sqr 2 rfl (sp rfl (PE.add rfl rfl (by omega)) rfl (pur 1 rfl ?_)))
 exact Z7 ⟨(b+1,bl2.set b ⟨min 300 (mo+x209),x9.fst⟩,tq6+1,m209),by dsimp only;omega,hhl2.set hx9 (by omega) (fun t h1 h2=>by have:=(hmv.con b (by omega) t h1).2;have:=hmt t h1 (by omega);omega),by dsimp only;omega,by assumption⟩ idH
 obtain rfl:nb=b:=by omega
 refine Z9 (Za (Za (Zh (Z0 (sqt 5 rfl (pur 2 rfl (sp rfl (PE.add rfl rfl (by omega)) rfl ?_)))))))
 refine cl rfl Z2L rfl rfl (Z0r l1 a1q c1q bq hl1 _ _ (by omega) (by assumption) (5+1) _ _) ?_
 rintro _ _ R1 ⟨x218,m218,hx218,rfl,hm218,rfl,hR1⟩
 obtain rfl:=hR1.symm
 clear hR1
 obtain ⟨nlv,rfl⟩:∃ n:Nat,x218=n:=⟨x218.toNat,by omega⟩
 refine pur 1 rfl (Z3 ?_)
 refine Sy.heap (H':=(bq,cel 111 [.slice a1q l1.length c1q,.int .i64 (tq6+1),.int .u32 (m218)])::((OSl.nil 102 4).G++((b12,cel 60 [.int .i64 (D:Int),.slice (some ⟨bb,0,none⟩) nb cb,.slice aM many kM,(OSl.nil 102 4).fs])::(b13,cel 89 [.slice aF nb kF,.slice aA many kA])::(b11,cel 89 [Zl,Zl])::(b10,cel 60 [.int .i64 0,Zl,Zl,Zl])::H))) (R':=RowsA (some ⟨bb,0,none⟩) 3 (Zf bl2)::RowsA aM 5 (Zn mv)::RowsA aA 1 (Z6 am)::RowsA aF 1 (Z6 fs)::R) (fun w h=>St.rows (rest:=jb) (h.pull bb) (Z7P _)) ?_
 refine Zb (ι:=(x:{x:Nat×List SLev×Int×Int // x.1≤nlv∧x.2.1.length=x.1∧LvI D nb fs mv am x.2.1∧(tq≤x.2.2.1∧x.2.2.1≤tq+(68+4*x.1))∧(0≤x.2.2.2∧x.2.2.2≤4294967295)})×OSl 102 4 (Zy x.1.2.1)) (fun x=>⟨[(0,.pointer (some ⟨bq,0,none⟩)),(4,.int .i64 5),(10,.pointer (some ⟨b10,0,none⟩)),(11,.pointer (some ⟨b11,0,none⟩)),(12,.pointer (some ⟨b12,0,none⟩)),(13,.pointer (some ⟨b13,0,none⟩)),(218,.int .i64 (nlv:Int)),(219,.int .i64 (x.1.1.1:Int))],(bq,cel 111 [.slice a1q l1.length c1q,.int .i64 (x.1.1.2.2.1),.int .u32 (x.1.1.2.2.2)])::(x.2.G++((b12,cel 60 [.int .i64 (D:Int),.slice (some ⟨bb,0,none⟩) nb cb,.slice aM many kM,x.2.fs])::(b13,cel 89 [.slice aF nb kF,.slice aA many kA])::(b11,cel 89 [Zl,Zl])::(b10,cel 60 [.int .i64 0,Zl,Zl,Zl])::H)),RowsA (some ⟨bb,0,none⟩) 3 (Zf bl2)::RowsA aM 5 (Zn mv)::RowsA aA 1 (Z6 am)::RowsA aF 1 (Z6 fs)::R⟩) (fun x=>nlv-x.1.1.1) ⟨⟨(0,[],tq6+1,m218),Nat.zero_le _,rfl,fun l h=>(by cases h),by dsimp only;omega,by assumption⟩,OSl.nil _ _⟩ ?_ (fun x=>?_)
 exact Ze idH
 obtain ⟨⟨⟨k5,ls,tq7,mx7⟩,hk5,hlsl,hlv,htq7,hmx7⟩,oL⟩:=x
 dsimp only at hk5 hlsl hlv htq7 hmx7 oL ⊢
 refine sqt 1 rfl (pur 1 rfl (Z0 ?_))
 refine Z1 rfl ?_ ?_<;>intro hc9<;>try simp only [cS] at hc9
 refine Z2 (Z0 (Z3 (Z0 ?_)))
 refine Z4G (ι:={x:(Int×Nat)×Nat×Int×Int // ((0≤x.1.1∧x.1.1≤D)∧x.1.2<nb)∧(tq≤x.2.2.1∧x.2.2.1≤tq+(70+4*k5))∧(0≤x.2.2.2∧x.2.2.2≤4294967295)}) (fun x=>⟨[(0,.pointer (some ⟨bq,0,none⟩)),(4,.int .i64 5),(10,.pointer (some ⟨b10,0,none⟩)),(11,.pointer (some ⟨b11,0,none⟩)),(12,.pointer (some ⟨b12,0,none⟩)),(13,.pointer (some ⟨b13,0,none⟩)),(24,.pointer (some ⟨x.1.2.1,0,none⟩)),(218,.int .i64 (nlv:Int)),(219,.int .i64 (k5:Int))],(x.1.2.1,cel 102 [.int .i64 x.1.1.1,.int .i64 (x.1.1.2:Int),.int .i64 0,.int .i64 0])::(bq,cel 111 [.slice a1q l1.length c1q,.int .i64 (x.1.2.2.1),.int .u32 (x.1.2.2.2)])::(oL.G++((b12,cel 60 [.int .i64 (D:Int),.slice (some ⟨bb,0,none⟩) nb cb,.slice aM many kM,oL.fs])::(b13,cel 89 [.slice aF nb kF,.slice aA many kA])::(b11,cel 89 [Zl,Zl])::(b10,cel 60 [.int .i64 0,Zl,Zl,Zl])::H)),RowsA (some ⟨bb,0,none⟩) 3 (Zf bl2)::RowsA aM 5 (Zn mv)::RowsA aA 1 (Z6 am)::RowsA aF 1 (Z6 fs)::R⟩) ?_ ?_
 refine Zd [0,0,2,6,15,0,0,64,192,511,1023,0,4095] (.tk 0 (.tk 1 (.ld 2 (.tk 3 (.tk 5 (.tk 6 (.ld 7 (.tk 8 (.any (.alt 4 (.any (.alt 9 (.tk 10 (.big 11 (.big 12 .done))) (.alt 11 (.big 9 (.tk 10 (.big 12 .done))) .stop))) (.alt 11 (.big 4 (.big 9 (.tk 10 (.big 12 .done)))) .stop))))))))))) Zt (by kernel_rfl) ?_
 refine Zm 1 rfl (tk rfl (PE.fA Z18 rfl) rfl (ld rfl rfl (lh (v:=.int .i64 (D:Int)) sc3 rfl rfl) rfl (tk rfl (PE.add rfl rfl (by omega)) rfl (Zm 1 rfl (tk rfl (PE.fA Z0o rfl) rfl (ld rfl rfl (lh (v:=.slice (some ⟨bb,0,none⟩) nb cb) Z2I rfl rfl) rfl (tk rfl (PE.lenSl Z2R rfl) rfl ?_)))))))
 refine ZI ?_ ?_
 refine ZH bq ?_
 refine cl rfl Z2L rfl rfl (Z0r l1 a1q c1q bq hl1 _ _ (by omega) (by assumption) ((D:Int)+1) _ _) ?_
 rintro _ _ R1 ⟨x225,m225,hx225,rfl,hm225,rfl,hR1⟩
 obtain rfl:=hR1.symm
 clear hR1
 refine bg (fun w hs=>⟨(lh (v:=.slice (some ⟨bb,0,none⟩) nb cb) Z2I rfl rfl) w hs,trivial,trivial⟩) ?_
 refine ZI ?_ ?_
 refine ZH bq ?_
 refine cl rfl Z2L rfl rfl (Z0r l1 a1q c1q bq hl1 _ _ (by omega) (by assumption) ((nb:Int)) _ _) ?_
 rintro _ _ R1 ⟨x230,m230,hx230,rfl,hm230,rfl,hR1⟩
 obtain rfl:=hR1.symm
 clear hR1
 refine bgT (tk rfl (PE.build (out:=[.int .i64 x225,.int .i64 x230,.int .i64 0,.int .i64 0]) ZfE Z4M rfl rfl) rfl (alc rfl Z4M rfl (fun b24=>bgT ?_)))
 refine ZB (l':=[.int .i64 x225,.int .i64 x230,.int .i64 0,.int .i64 0]) rfl rfl rfl Z95 rfl rfl rfl rfl (nl rfl) ?_
 refine bgT ?_
 obtain ⟨q230,hq230⟩:∃ q:Nat,x230=(q:Int):=⟨x230.toNat,by omega⟩
 rw [hq230]
 exact Zu ⟨((x225,q230),b24,tq7+1+1,_),⟨by dsimp only;omega,by dsimp only;omega⟩,by dsimp only;omega,by assumption⟩ (fun w h=>(h.pull bq).pull b24)
 refine ZI ?_ ?_
 refine alc rfl Z4M rfl (fun b24=>?_)
 refine bg (fun w hs=>⟨(lh (v:=.slice (some ⟨bb,0,none⟩) nb cb) Z2I rfl rfl) w hs,trivial⟩) ?_
 refine ZH bq ?_
 refine cl rfl Z2L rfl rfl (Z0r l1 a1q c1q bq hl1 _ _ (by omega) (by assumption) ((nb:Int)) _ _) ?_
 rintro _ _ R1 ⟨x230,m230,hx230,rfl,hm230,rfl,hR1⟩
 obtain rfl:=hR1.symm
 clear hR1
 refine bgT (tk rfl (PE.build (out:=[.int .i64 x225,.int .i64 x230,.int .i64 0,.int .i64 0]) ZfE Z4M rfl rfl) rfl ?_)
 refine ZB (l':=[.int .i64 x225,.int .i64 x230,.int .i64 0,.int .i64 0]) rfl rfl rfl Z95 rfl rfl rfl rfl (nl rfl) ?_
 refine bgT ?_
 obtain ⟨q230,hq230⟩:∃ q:Nat,x230=(q:Int):=⟨x230.toNat,by omega⟩
 rw [hq230]
 exact Zu ⟨((x225,q230),b24,tq7+1+1,_),⟨by dsimp only;omega,by dsimp only;omega⟩,by dsimp only;omega,by assumption⟩ (fun w h=>(h.pull bq).pull b24)
 exact Z0f
 refine ZI ?_ ?_
 refine alc rfl Z4M rfl (fun b24=>?_)
 refine bg (fun w hs=>⟨(lh (v:=.slice (some ⟨bb,0,none⟩) nb cb) Z2I rfl rfl) w hs,(lh (v:=.int .i64 (D:Int)) sc3 rfl rfl) w hs,trivial⟩) ?_
 refine ZH bq ?_
 refine cl rfl Z2L rfl rfl (Z0r l1 a1q c1q bq hl1 _ _ (by omega) (by assumption) ((D:Int)+1) _ _) ?_
 rintro _ _ R1 ⟨x225,m225,hx225,rfl,hm225,rfl,hR1⟩
 obtain rfl:=hR1.symm
 clear hR1
 refine bg (fun w hs=>⟨(lh (v:=.slice (some ⟨bb,0,none⟩) nb cb) Z2I rfl rfl) w hs,trivial,trivial⟩) ?_
 refine ZH bq ?_
 refine cl rfl Z2L rfl rfl (Z0r l1 a1q c1q bq hl1 _ _ (by omega) (by assumption) ((nb:Int)) _ _) ?_
 rintro _ _ R1 ⟨x230,m230,hx230,rfl,hm230,rfl,hR1⟩
 obtain rfl:=hR1.symm
 clear hR1
 refine bgT (tk rfl (PE.build (out:=[.int .i64 x225,.int .i64 x230,.int .i64 0,.int .i64 0]) ZfE Z4M rfl rfl) rfl ?_)
 refine ZB (l':=[.int .i64 x225,.int .i64 x230,.int .i64 0,.int .i64 0]) rfl rfl rfl Z95 rfl rfl rfl rfl (nl rfl) ?_
 refine bgT ?_
 obtain ⟨q230,hq230⟩:∃ q:Nat,x230=(q:Int):=⟨x230.toNat,by omega⟩
 rw [hq230]
 exact Zu ⟨((x225,q230),b24,tq7+1+1,_),⟨by dsimp only;omega,by dsimp only;omega⟩,by dsimp only;omega,by assumption⟩ (fun w h=>(h.pull bq).pull b24)
 exact Z0f
 rintro ⟨⟨⟨dy,q⟩,b24,tq8,mx8⟩,hrg8,htq8,hmx8⟩
 dsimp only at hrg8 htq8 hmx8 ⊢
 have hcq:=hmv.con q hrg8.2 dy hrg8.1.1
 obtain ⟨aL,kL,eL⟩:=OSl.formN (n:=k5) oL (by rw [lrl,hlsl])
 rw [eL]
 refine sqt 11 rfl (pur 1 rfl (spL rfl rfl (lhA [.int .i64 (D:Int),.slice (some ⟨bb,0,none⟩) nb cb,.slice aM many kM,.slice aL k5 kL] Z4P rfl (rest:=[]) rfl rfl) rfl (spL rfl rfl (lhA [.slice aF nb kF,.slice aA many kA] Zc5 rfl (rest:=[]) rfl rfl) rfl (sp rfl (PE.fA Z4h rfl) rfl (spL rfl rfl (lh (v:=.int .i64 (q:Int)) sc3 rfl rfl) rfl (sp rfl (PE.fA Z7h rfl) rfl (spL rfl rfl (lh (v:=.int .i64 dy) sc3 rfl rfl) rfl ?_)))))))
 refine clV rfl Z93 rfl rfl (Z6a fs mv am hmv.l2 (by omega) hfb hab (D:Int) (.slice (some ⟨bb,0,none⟩) nb cb) (.slice aL k5 kL) aM aF aA kM kF kA q nb many hfl hmv.l1 (by omega) (dy) _ _ RdR.fact RdR.fact RdR.fact) ?_
 refine ZH bq ?_
 refine cl rfl ZeY rfl rfl (Zad l1 a1q c1q hl1 bq _ _ (by omega) (by assumption) (con fs mv am q dy) 8 (by omega) (by omega) _ _) ?_
 rintro _ _ R1 ⟨s240,m240,hs240,hm240,rfl,rfl,hR1⟩
 obtain rfl:=hR1.symm
 clear hR1
 refine sp rfl (PE.fA Z4i rfl) rfl ?_
 refine ZB (l':=Z1r ⟨dy,(q:Int),s240⟩) rfl rfl rfl ZhL rfl rfl rfl rfl (nl rfl) ?_
 refine sqr 7 rfl ?_
 rw [← eL]
 refine sp rfl (PE.fA Z1T rfl) rfl (spL rfl rfl (lh (v:=oL.fs) Zdi rfl rfl) rfl (spL rfl rfl (lhA (Z1r ⟨dy,(q:Int),s240⟩) Z70 rfl (rest:=[]) rfl rfl) rfl ?_))
 refine bsl (out:=[_,_,_,_]) rfl Zk2 Z4M rfl rfl rfl rfl rfl rfl (fun b245=>?_)
 refine apO (oL) rfl Zj3 rfl rfl (ZU (row:=Z1r ⟨dy,(q:Int),s240⟩) rfl) rfl rfl ((by simp only [lrl,List.length_cons,List.length_nil];omega)) rfl (fun o246=>?_)
 refine sp rfl (PE.fA Z1T rfl) rfl ?_
 refine ZB (l':=[.int .i64 (D:Int),.slice (some ⟨bb,0,none⟩) nb cb,.slice aM many kM,o246.fs]) rfl rfl rfl ZjE rfl (by rw [o246.cells.1];first | done | rfl) (by rw [o246.cells.1];simp [o246.cells.2]) (by rw [o246.cells.1];first | done | rfl) (by rw [o246.cells.1];first | done | exact Nat.le_of_ble_eq_true rfl) ?_
 refine sqr 2 rfl (sp rfl (PE.add rfl rfl (by omega)) rfl (pur 1 rfl ?_))
 exact ZC ⟨⟨(k5+1,ls++[⟨dy,(q:Int),s240⟩],tq8+1+1,m240),by dsimp only;omega,by dsimp only;rw [List.length_append,List.length_singleton];omega,fun l h=>by
   rcases List.mem_append.1 h with h | h
   · exact hlv l h
   · rw [List.mem_singleton.1 h];exact ⟨⟨hrg8.1,by dsimp only;omega,hs240.1⟩,hs240.2⟩,by dsimp only;omega,by assumption⟩,o246.cast (by simp [Zy])⟩ (by dsimp only;omega) sbA (fun w h=>(h.del b245).del b24)
 obtain rfl:k5=nlv:=by omega
 obtain ⟨aL,kL,eL,hL⟩:=oL.freeze
 rw [lrl,hlsl] at eL
 rw [eL]
 refine Sy.heap (fun w h=>hL (h.perm (Zo [_] oL.G _))) ?_
 clear hL eL
 obtain ⟨hyok,hmok⟩:=ZcZ (ls:=ls) (by omega) (by omega) (by omega) (by omega) hfl hhl2 hmv hlv
 refine Z9 (Za (Za (Zh (Z0 ?_))))
 refine Zd [0,0,1,7] (.ld 0 (.ld 1 (.big 2 (.big 3 .done)))) Zt (by kernel_rfl) ?_
 refine ld rfl rfl (lhA [.int .i64 (D:Int),.slice (some ⟨bb,0,none⟩) nb cb,.slice aM many kM,.slice aL k5 kL] Z4P rfl (rest:=[]) rfl rfl) rfl (ld rfl rfl (lhA [.slice aF nb kF,.slice aA many kA] Zc5 rfl (rest:=[]) rfl rfl) rfl ?_)
 refine ZB (l':=[.int .i64 (D:Int),.slice (some ⟨bb,0,none⟩) nb cb,.slice aM many kM,.slice aL k5 kL]) rfl rfl rfl ZhN rfl rfl rfl rfl (nl rfl) ?_
 refine bg (fun w hs=>⟨(lhA [.slice aF nb kF,.slice aA many kA] Zc5 rfl (rest:=[]) rfl rfl) w hs,trivial,trivial⟩) ?_
 refine ZB (l':=[.slice aF nb kF,.slice aA many kA]) rfl rfl rfl ZjF rfl rfl rfl rfl (nl rfl) ?_
 refine bgT (Z5 ?_)
 exact Zr (vs:=[_,_]) rfl (.cons (RV.cell rfl (lhA [.int .i64 (D:Int),.slice (some ⟨bb,0,none⟩) nb cb,.slice aM many kM,.slice aL k5 kL] Z4P rfl (rest:=[]) rfl rfl)) (.cons (RV.cell rfl (lhA [.slice aF nb kF,.slice aA many kA] Zc5 rfl (rest:=[]) rfl rfl)) .nil)) rfl ⟨⟨D,bl2,mv,ls⟩,fs,am,some ⟨bb,0,none⟩,aM,aL,cb,kM,kL,.agg #[.slice aF nb kF,.slice aA many kA],tq7,mx7,hyok,hmok,⟨by have h9:mv.length=many:=hmi;show mv.length≤8;omega,by show ls.length≤5;omega⟩,⟨_,_,rfl,rfl,rfl⟩,⟨by omega,by omega⟩,by assumption,by unfold Yrd.v ydl;dsimp only;rw [hhl2.len,hmi,hlsl];rfl,rfl,rfl⟩ (fun w h=>(((((h.del b13).del b12).del b11).del b10).facts SubF.sub))
end Go.Proofs.YtcfdanhklbklkaaGreat.Sk
namespace Go.Proofs.YtcfdanhklbklkaaGreat
set_option linter.unusedSimpArgs false
set_option linter.unusedVariables false
open Go
theorem Z70:Z2q Tryz.prog 102=some 4:=by kernel_rfl
theorem Z9r:Z2q Tryz.prog 37=some 2:=by kernel_rfl
theorem Z4P:Z2q Tryz.prog 60=some 4:=by kernel_rfl
theorem Zg2:Z2q Tryz.prog 62=some 3:=by kernel_rfl
theorem Z9s:Z2q Tryz.prog 83=some 5:=by kernel_rfl
theorem Z2m:Z2q Tryz.prog 95=some 3:=by kernel_rfl
theorem Zj2:apT Tryz.prog 56=some (62,3,24):=by kernel_rfl
theorem Zg8:apT Tryz.prog 57=some (83,5,40):=by kernel_rfl
theorem Zj3:apT Tryz.prog 58=some (102,4,32):=by kernel_rfl
theorem Zkt:apT Tryz.prog 92=some (97,2,16):=by kernel_rfl
theorem Zjh:cal Tryz.prog 23=true:=by kernel_rfl
theorem Zat:cal Tryz.prog 24=true:=by kernel_rfl
theorem Zcy:cal Tryz.prog 25=true:=by kernel_rfl
theorem Zhu:cal Tryz.prog 26=true:=by kernel_rfl
theorem Zji:cal Tryz.prog 27=true:=by kernel_rfl
theorem Zjj:cal Tryz.prog 28=true:=by kernel_rfl
theorem Zjt:cal Tryz.prog 68=true:=by kernel_rfl
theorem Zkx:cal Tryz.prog 7=true:=by kernel_rfl
theorem Z95:ZJ Tryz.prog 102=some 4:=by kernel_rfl
theorem Z6g:ZJ Tryz.prog 23=some 1:=by kernel_rfl
theorem ZjD:ZJ Tryz.prog 56=some 1:=by kernel_rfl
theorem ZhM:ZJ Tryz.prog 57=some 1:=by kernel_rfl
theorem ZjE:ZJ Tryz.prog 58=some 1:=by kernel_rfl
theorem ZhN:ZJ Tryz.prog 60=some 4:=by kernel_rfl
theorem ZiL:ZJ Tryz.prog 62=some 3:=by kernel_rfl
theorem ZcH:ZJ Tryz.prog 83=some 5:=by kernel_rfl
theorem ZjF:ZJ Tryz.prog 89=some 2:=by kernel_rfl
theorem ZkA:ZJ Tryz.prog 92=some 1:=by kernel_rfl
theorem ZjG:ZJ Tryz.prog 95=some 3:=by kernel_rfl
theorem Z0G:elN Tryz.prog 23=some 1:=by kernel_rfl
theorem ZhS:elN Tryz.prog 56=some 3:=by kernel_rfl
theorem Zfa:elN Tryz.prog 57=some 5:=by kernel_rfl
theorem ZiN:elN Tryz.prog 58=some 4:=by kernel_rfl
theorem Zkj:elN Tryz.prog 84=some 2:=by kernel_rfl
theorem ZjH:eqB Tryz.prog 10000 37=some (true,2):=by kernel_rfl
theorem ZjJ:Tryz.prog.eqGuardType Tryz.prog.depth 37=false:=by kernel_rfl
theorem Z4h:Z0m Tryz.prog 102 1=some 1:=by kernel_rfl
theorem Z18:Z0m Tryz.prog 60 0=some 0:=by kernel_rfl
theorem Z0o:Z0m Tryz.prog 60 1=some 1:=by kernel_rfl
theorem Z0H:Z0m Tryz.prog 60 2=some 2:=by kernel_rfl
theorem Z1T:Z0m Tryz.prog 60 3=some 3:=by kernel_rfl
theorem Z0z:Z0m Tryz.prog 83 1=some 1:=by kernel_rfl
theorem Z1J:Z0m Tryz.prog 83 2=some 2:=by kernel_rfl
theorem Z2r:Z0m Tryz.prog 95 0=some 0:=by kernel_rfl
theorem Z10:Z0m Tryz.prog 95 1=some 1:=by kernel_rfl
theorem ik3:Zb3 Tryz.prog 3=some .i64:=by kernel_rfl
theorem ZT:Z3G Tryz.prog 23=true:=by kernel_rfl
theorem Z2R:Z3G Tryz.prog 56=true:=by kernel_rfl
theorem Z6z:Z3G Tryz.prog 57=true:=by kernel_rfl
theorem Zb6:Z3G Tryz.prog 58=true:=by kernel_rfl
theorem Zfk:Z3G Tryz.prog 84=true:=by kernel_rfl
theorem ZjP:Z00 Tryz.prog 60=some [(0,1),(1,1),(2,1),(3,1)]:=by kernel_rfl
theorem ZjQ:Z00 Tryz.prog 62=some [(0,1),(1,2)]:=by kernel_rfl
theorem ZjS:Z00 Tryz.prog 95=some [(0,1),(1,1),(2,1)]:=by kernel_rfl
theorem Zc7:Z00 Tryz.prog 97=some [(0,1),(1,1)]:=by kernel_rfl
theorem Z0x:Z17 Tryz.prog 23=true:=by kernel_rfl
theorem sc3:Z17 Tryz.prog 3=true:=by kernel_rfl
theorem Z2I:Z17 Tryz.prog 56=true:=by kernel_rfl
theorem Z6M:Z17 Tryz.prog 57=true:=by kernel_rfl
theorem Zdi:Z17 Tryz.prog 58=true:=by kernel_rfl
theorem Z7B:Z17 Tryz.prog 92=true:=by kernel_rfl
theorem Z0F:slE Tryz.prog 23=some (3,1):=by kernel_rfl
theorem Zk1:slE Tryz.prog 56=some (62,3):=by kernel_rfl
theorem ZiR:slE Tryz.prog 57=some (83,5):=by kernel_rfl
theorem Zk2:slE Tryz.prog 58=some (102,4):=by kernel_rfl
theorem Zk3:slE Tryz.prog 92=some (97,2):=by kernel_rfl
theorem us5:(Tryz.prog.underlying 5).isSome=true:=by kernel_rfl
theorem Z4M:ZD Tryz.prog 102=some ([.int .i64 0,.int .i64 0,.int .i64 0,.int .i64 0]):=by kernel_rfl
theorem Zc2:ZD Tryz.prog 23=some ([.slice none 0 0]):=by kernel_rfl
theorem zl3:ZD Tryz.prog 3=some ([.int .i64 0]):=by kernel_rfl
theorem Zg0:ZD Tryz.prog 60=some ([.int .i64 0,.slice none 0 0,.slice none 0 0,.slice none 0 0]):=by kernel_rfl
theorem Zg1:ZD Tryz.prog 62=some ([.int .i64 0,.int .i64 0,.int .i64 0]):=by kernel_rfl
theorem Z7L:ZD Tryz.prog 83=some ([.int .i64 0,.int .i64 0,.int .i64 0,.int .i64 0,.int .i64 0]):=by kernel_rfl
theorem ZiU:ZD Tryz.prog 89=some ([.slice none 0 0,.slice none 0 0]):=by kernel_rfl
theorem ZiI:ZD Tryz.prog 95=some ([.int .i64 0,.slice none 0 0,.slice none 0 0]):=by kernel_rfl
theorem Z6W:ZD Tryz.prog 97=some ([.int .i64 0,.int .i64 0]):=by kernel_rfl
namespace Sk
def inn (m:SMov):Bool:=decide (m.fr ≠ -1)&&decide (m.to ≠ -1)
def Zx (mv:List SMov):List Wv.Gp:=(mv.filter inn).map fun m=>⟨m.fr,m.to⟩
theorem Zb1 {mv:List SMov} {j:Nat} {m:SMov} (h:mv[j]?=some m):Zx (mv.take (j+1))=Zx (mv.take j)++(if inn m=true then [⟨m.fr,m.to⟩] else []):=by
 unfold Zx
 rw [List.take_add_one,h,Option.toList_some,List.filter_append,List.map_append]
 congr 1
 cases hc:inn m
 · rw [List.filter_cons_of_neg (by simp [hc])];rfl
 · rw [List.filter_cons_of_pos hc];rfl
theorem Z6q {α:Type} {p:α→Bool} {l:List α} {j:Nat} {x:α} (h:l[j]?=some x):(l.take (j+1)).filter p=(l.take j).filter p++(if p x=true then [x] else []):=by
 rw [List.take_add_one,h,Option.toList_some,List.filter_append]
 congr 1
 cases hc:p x
 · rw [List.filter_cons_of_neg (by simp [hc])];rfl
 · rw [List.filter_cons_of_pos hc];rfl
theorem Z8l {y:Yrd} (hy:y.ok):Wv.Hse.ok ⟨(y.bins.length:Int),Zx y.moves,[]⟩:=by
 have h1:=hy.bins
 refine ⟨⟨by show (1:Int)≤(y.bins.length:Int);omega,by show (y.bins.length:Int)≤7;omega⟩,?_,Nat.zero_le _,fun g hg=>?_,fun s hs=>by cases hs⟩
 · show (Zx y.moves).length≤10
   unfold Zx
   rw [List.length_map]
   have:=List.length_filter_le inn y.moves
   have:=hy.nm
   omega
 · obtain ⟨m,hm,rfl⟩:=List.mem_map.1 hg
   obtain ⟨h2,h3⟩:=List.mem_filter.1 hm
   unfold inn at h3
   simp only [Bool.and_eq_true,decide_eq_true_eq] at h3
   obtain ⟨_,h4,h5,h6,_⟩:=hy.mov m h2
   exact ⟨⟨by show 0≤m.fr;omega,h4.2⟩,⟨by show 0≤m.to;omega,h5.2⟩,h6⟩
theorem Z4r {y:Yrd} (hy:y.ok) {x:Int} (hx:0≤x∧x<(y.bins.length:Int)):∀ m∈y.moves,m.fr ≠ -1→m.to ≠ -1→decide (Wv.na (Wv.Hse.weeksV ⟨(y.bins.length:Int),Zx y.moves,[]⟩ [x]) m.fr.toNat = -1)=decide (Wv.na (Wv.Hse.weeksV ⟨(y.bins.length:Int),Zx y.moves,[]⟩ [x]) m.to.toNat = -1):=fun m hm h1 h2=>by
 have hok:=Z8l hy
 obtain ⟨_,h4,h5,_,_⟩:=hy.mov m hm
 have hb:=hy.bins
 have hmem:(⟨m.fr,m.to⟩:Wv.Gp)∈Zx y.moves:=List.mem_map.2 ⟨m,List.mem_filter.2 ⟨hm,by unfold inn;rw [decide_eq_true h1,decide_eq_true h2];rfl⟩,rfl⟩
 rw [Wv.weeksV_at hok [x] (k:=m.fr.toNat) (by show m.fr.toNat<((y.bins.length:Int)).toNat;omega),Wv.weeksV_at hok [x] (k:=m.to.toNat) (by show m.to.toNat<((y.bins.length:Int)).toNat;omega)]
 have hadj:=Wv.wkN_adj hok.wth (m:=Wv.msk [x]) (Wv.msk_lt (n:=7) fun z hz=>by rw [List.mem_singleton.1 hz];omega) (Wv.adj_mem.2 ⟨_,hmem,.inl ⟨rfl,rfl⟩⟩)
 refine decide_eq_decide.2 ?_
 show Wv.wkN (Zx y.moves) (Wv.msk [x]) m.fr.toNat = -1↔Wv.wkN (Zx y.moves) (Wv.msk [x]) m.to.toNat = -1
 have hadj:Wv.wkN (Zx y.moves) (Wv.msk [x]) m.fr.toNat<0↔Wv.wkN (Zx y.moves) (Wv.msk [x]) m.to.toNat<0:=hadj.1
 rcases Wv.wkN_cases (Zx y.moves) (Wv.msk [x]) m.fr.toNat with ⟨e1,_⟩ | ⟨e1,e2,_⟩<;>rcases Wv.wkN_cases (Zx y.moves) (Wv.msk [x]) m.to.toNat with ⟨e3,_⟩ | ⟨e3,e4,_⟩<;>omega
theorem Zib {y:Yrd} (hy:y.ok) (W:Nat→Bool):(y.off W).ok:=by
 have hl:=Z1c y W
 refine ⟨hy.days,by rw [hl];exact hy.bins,?_,?_,fun x hx=>?_,fun m hm=>?_,fun l h=>?_⟩
 · have:=hy.nm;exact Nat.le_trans (List.length_filter_le _ _) this
 · have:=hy.nl;exact Nat.le_trans (List.length_filter_le _ _) this
 · obtain ⟨b,hb,rfl⟩:=List.mem_map.1 hx
   cases W b with
   | true=>exact (Z41 hy (List.mem_range.1 hb)).1
   | false=>exact ⟨by show (0:Int)≤0∧(0:Int)≤300;decide,by show (0:Int)≤0∧(0:Int)≤0∧(0:Int)≤300;decide⟩
 · rw [hl];exact hy.mov m (List.mem_filter.1 hm).1
 · rw [hl];exact hy.lev l (List.mem_filter.1 h).1
theorem Zfy {y:Yrd} (hy:y.ok) {W:Nat→Bool} (hW:∀ m∈y.moves,m.fr ≠ -1→m.to ≠ -1→W m.fr.toNat=W m.to.toNat) {b:Nat} (hb:b<y.bins.length) (hw:W b=true) {L M:List Spn} (hL:BndOk y (fun t=>Zdb (b*(y.days+1)+t)) (y.days+1) L) (hM:BndOk (y.off W) (fun t=>Zdb (b*((y.off W).days+1)+t)) ((y.off W).days+1) M):L=M:=by
 have h:BndOk (y.off W) (fun t=>Zdb (b*(y.days+1)+t)) (y.days+1) L:=⟨hL.1,fun t s hs=>by
   have ht:t≤y.days:=by have:=(List.getElem?_eq_some_iff.1 hs).1;rw [hL.1] at this;omega
   have h1:=hL.2 t s hs
   rw [Z4s]
   exact ⟨ZfA hy hW hb hw ht h1.1,Zfz hy hW hb hw ht h1.2⟩⟩
 exact h.uniq hM
theorem Zcq (xs ys:List Spn) (a a2:Option Addr) (c c2:Nat) (hl:xs.length≤9223372036854775807) (hl2:ys.length≤9223372036854775807) (H:Z8) (R:Z4) [hR:MemRows a 2 (Z14 xs) R] [hR2:MemRows a2 2 (Z14 ys) R] :
    FnV Tryz.prog 68 [.slice a xs.length c,.slice a2 ys.length c2] H R (.bool (decide (xs=ys))):=by
 refine Zc Tryz.func68 rfl Tryz.ntmps68 rfl ?_
 refine sqt 1 rfl (pur 1 rfl (Z0 (sqt 5 rfl (pur 1 rfl (sp rfl (PE.lenSl Zfk rfl) rfl (pur 1 rfl (sp rfl (PE.lenSl Zfk rfl) rfl (pur 1 rfl ?_))))))))
 refine Z1 rfl ?_ ?_<;>intro hc0
 have hne:xs≠ys:=fun e=>by subst e;simp at hc0
 refine sqt 1 rfl (pur 1 rfl (Z5 ?_))
 exact rtA rfl rfl rfl ⟨by first | (simp only [ZP];rw [dT heq];done) | (simp only [ZP];rw [dF hne]),rfl,rfl⟩ idH
 have hle:xs.length=ys.length:=by simp only [cS] at hc0;omega
 refine Z2 (Z0 (sqt 3 rfl (pur 1 rfl (sp rfl (PE.lenSl Zfk rfl) rfl (pur 1 rfl (Z3 ?_))))))
 refine Zb (ι:={k:Nat // k≤xs.length∧xs.take k=ys.take k}) (fun k=>⟨[(0,.slice a xs.length c),(1,.slice a2 ys.length c2),(12,.int .i64 xs.length),(13,.int .i64 k.1)],H,R⟩) (fun k=>xs.length-k.1) ⟨0,by simp⟩ ?_ (fun k=>?_)
 exact Ze idH
 obtain ⟨k,hk,hn⟩:=k
 dsimp only
 refine sqt 1 rfl (pur 1 rfl (Z0 ?_))
 refine Z1 rfl ?_ ?_<;>intro hc1
 simp only [cS] at hc1
 obtain ⟨x,hx⟩:∃ x,xs[k]?=some x:=⟨_,List.getElem?_eq_getElem (by omega)⟩
 obtain ⟨z,hz⟩:∃ z,ys[k]?=some z:=⟨_,List.getElem?_eq_getElem (by omega)⟩
 refine Zi (a:=a) (sz:=2) (rows:=Z14 xs) (by intro h0;simp [Z14] at h0;simp [h0] at hx) (fun b off he=>?_)
 subst he
 refine Zi (a:=a2) (sz:=2) (rows:=Z14 ys) (by intro h0;simp [Z14] at h0;simp [h0] at hz) (fun b2 off2 he=>?_)
 subst he
 refine Z2 (Z0 (Z3 (sqt 2 rfl (pur 2 rfl (Z0 ?_)))))
 refine Zd [0,0,3,7,0,0,48,112,255] (tks 0 3 (.ld 3 (tks 4 3 (.ld 7 (.tk 8 .done))))) Zt (by kernel_rfl) ?_
 refine Zm 2 rfl (tk rfl (PE.indexAddr Zkj rfl rfl (by omega) (by omega)) rfl (ld rfl rfl (lfA Z9r (row:=(fun s:Spn=>[Value.int .i64 s.lo,.int .i64 s.hi]) x) (by simp [Z14,hx]) rfl) rfl (Zm 2 rfl (tk rfl (PE.indexAddr Zkj rfl rfl (by omega) (by omega)) rfl (ld rfl rfl (lfA Z9r (row:=(fun s:Spn=>[Value.int .i64 s.lo,.int .i64 s.hi]) z) (by simp [Z14,hz]) rfl) rfl (tk rfl (PE.neqAgg [x.lo,x.hi] [z.lo,z.hi] (Z2M 10000 37 true 2 ZjH) ZjJ rfl rfl rfl rfl) rfl ?_))))))
 refine Z1 rfl ?_ ?_<;>intro hc2
 have hne:xs≠ys:=fun e=>by subst e;rw [hx] at hz;cases hz;simp at hc2
 refine sqt 1 rfl (pur 1 rfl (Z5 ?_))
 exact rtA rfl rfl rfl ⟨by first | (simp only [ZP];rw [dT heq];done) | (simp only [ZP];rw [dF hne]),rfl,rfl⟩ idH
 have hxz:x=z:=by cases x;cases z;simpa using hc2
 refine Z2 (sqr 2 rfl (sp rfl (PE.add rfl rfl (by omega)) rfl (pur 1 rfl ?_)))
 exact Z7 ⟨k+1,by omega,by rw [List.take_add_one,List.take_add_one,hn,hx,hz,hxz]⟩ idH
 simp only [cS] at hc1
 obtain rfl:k=xs.length:=by omega
 have heq:xs=ys:=by
   rw [List.take_length] at hn
   exact hn.trans (by rw [hle];exact List.take_length)
 refine Z9 (Za (Za (Zh (sqt 1 rfl (pur 1 rfl (Z5 ?_))))))
 exact rtA rfl rfl rfl ⟨by first | (simp only [ZP];rw [dT heq];done) | (simp only [ZP];rw [dF hne]),rfl,rfl⟩ idH
theorem Zj6 (xs ys:List Spn) (a a2:Option Addr) (c c2:Nat) (hl:xs.length≤1000000) (hl2:ys.length≤1000000) (H:Z8) (R:Z4) [hR:MemRows a 2 (Z14 xs) R] [hR2:MemRows a2 2 (Z14 ys) R] :
    FnV Tryz.prog 27 [.slice a xs.length c,.slice a2 ys.length c2] H R (.bool (decide (xs=ys))):=by
 refine Zc Tryz.func27 rfl Tryz.ntmps27 rfl ?_
 refine sqt 1 rfl (pur 1 rfl (sqt 4 rfl (pur 2 rfl ?_)))
 refine clV rfl Zjt rfl rfl (Zcq xs ys a a2 c c2 (by omega) (by omega) _ _) ?_
 refine pur 1 rfl (Z5 ?_)
 exact rtA rfl rfl rfl ⟨rfl,rfl,rfl⟩ drp
theorem Z5j (wv:List Int) (aw:Option Addr) (n cw b10:Nat) (hwl:wv.length=n) (q:Int) (hq : -1≤q∧q<n) (H:Z8) (R:Z4) [hM:Mem1 b10 (cel 23 [.slice aw n cw]) H] [hW:MemRows aw 1 (Z6 wv) R] :
    FnV Tryz.prog 25 [.int .i64 q,.pointer (some ⟨b10,0,none⟩)] H R (.bool (apB (fun b=>decide (Wv.na wv b = -1)) q)):=by
 refine Zc Tryz.func25 rfl Tryz.ntmps25 rfl ?_
 refine sqt 1 rfl (pur 1 rfl (sqt 10 rfl (pur 3 rfl ?_)))
 refine Zw 6 rfl ?_ ?_<;>intro g6
 refine pur 7 rfl (Z5 ?_)
 exact rtA rfl rfl rfl ⟨by simp only [ZP];unfold apB;rw [g6];rfl,rfl,rfl⟩ drp
 try simp only [cS] at g6
 refine Zi (a:=aw) (sz:=1) (rows:=Z6 wv) (ne0 (by rw [irl];omega)) (fun ba oa he=>?_)
 subst he
 refine Z0U rfl rfl rfl rfl rfl (lh Z0x rfl rfl) rfl (pur 1 rfl ?_)
 refine spG rfl rfl rfl rfl (PE.indexAddr Z0G rfl rfl (by omega) (by omega)) rfl ?_
 refine Z0U rfl rfl rfl rfl rfl (lf0 sc3 (ZQ (ZR (l:=wv) (k:=q.toNat) (by omega))) rfl) rfl (pur 3 rfl (Z5 ?_))
 exact rtA rfl rfl rfl ⟨by simp only [ZP];unfold apB;rw [decide_eq_false g6];rfl,rfl,rfl⟩ drp
set_option maxHeartbeats 2400000 in
theorem c_WeevilStock (l0:List Int) (a0:Option Addr) (c0:Nat) (hl0:l0.length≤9223372036854775807) (n1:Int) (hn1:0≤n1∧n1≤255) (H:Z8) (R:Z4) [hG0:MemRows a0 1 (Z4U l0) R] :
    Fn Tryz.prog 5 [.slice a0 l0.length c0,.int .u8 n1] H R (fun v H' R'=>v = .bool true∧H'=H∧R'=R):=by
 refine Zc Tryz.func5 rfl Tryz.ntmps5 rfl ?_
 refine sqt 1 rfl (pur 1 rfl (sqt 10 rfl (pur 1 rfl ?_)))
 refine cl rfl Zkx rfl rfl (ZdA l0 a0 c0 hl0 _ _) ?_
 rintro _ _ R1 ⟨bq,mk,hmk,rfl,rfl,hR1⟩
 obtain rfl:=hR1.symm
 clear hR1
 refine cl rfl Zjh rfl rfl (ZeK l0 a0 c0 hl0 bq 0 mk (by omega) hmk _ _) ?_
 rintro _ _ _ ⟨y,fs,am9,a1,a2,a3,k1,k2,k3,va,tqy,mxy,hy,hmok,hsz,hva,htqy,hmxy,rfl,rfl,rfl⟩
 obtain ⟨va1,va2,hv1,hv2,rfl⟩:=hva
 have hB:=Zd1 hy hmok
 have hbl:=hy.bins
 have hdy:=hy.days
 have hnm:=hy.nm
 have hnv:=hy.nl
 refine pur 3 rfl (alc rfl Zg0 rfl (fun b5=>alc rfl ZiU rfl (fun b6=>?_)))
 refine ZB (l':=(ydl y a1 a2 a3 k1 k2 k3)) rfl rfl rfl ZhN rfl rfl rfl rfl (nl rfl) ?_
 refine ZB (l':=[va1,va2]) rfl rfl rfl ZjF rfl rfl (by show ([va1,va2]:List Value).all (·.oneCell')=true;simp [hv1,hv2]) rfl (nl rfl) ?_
 refine sqt 6 rfl (sp rfl (PE.fA Z0o rfl) rfl (spL rfl rfl (lh Z2I rfl rfl) rfl (sp rfl (PE.lenSl Z2R rfl) rfl (sp rfl (PE.build (out:=[.int .i64 (y.bins.length:Int),Zl,Zl]) ZjS ZiI rfl rfl) rfl (alc rfl ZiI rfl (fun b7=>?_))))))
 refine ZB (l':=[.int .i64 (y.bins.length:Int),Zl,Zl]) rfl rfl rfl ZjG rfl rfl rfl rfl (nl rfl) ?_
 refine Z0 (sqt 4 rfl (sp rfl (PE.fA Z0H rfl) rfl (spL rfl rfl (lh Z6M rfl rfl) rfl (sp rfl (PE.lenSl Z6z rfl) rfl (pur 1 rfl (Z3 ?_))))))
 refine Zb (ι:=(j:{j:Nat // j≤y.moves.length})×OSl 97 2 (Wv.grows (Zx (y.moves.take j.1)))) (fun x=>⟨[(1,.int .u8 n1),(5,.pointer (some ⟨b5,0,none⟩)),(7,.pointer (some ⟨b7,0,none⟩)),(36,.slice a2 y.moves.length k2),(37,.int .i64 (y.moves.length:Int)),(38,.int .i64 (x.1.1:Int))],x.2.G++((b7,cel 95 [.int .i64 (y.bins.length:Int),x.2.fs,Zl])::(b6,cel 89 [va1,va2])::(b5,cel 60 (ydl y a1 a2 a3 k1 k2 k3))::(bq,cel 111 [.slice a0 l0.length c0,.int .i64 (tqy),.int .u32 (mxy)])::H),RowsA a1 3 (Zf y.bins)::RowsA a2 5 (Zn y.moves)::RowsA a3 4 (Zy y.levels)::R⟩) (fun x=>y.moves.length-x.1.1) ⟨⟨0,Nat.zero_le _⟩,OSl.nil _ _⟩ ?_ (fun x=>?_)
 exact Ze idH
 obtain ⟨⟨j,hj⟩,oG⟩:=x
 dsimp only at hj oG ⊢
 refine sqt 1 rfl (pur 1 rfl (Z0 ?_))
 refine Z1 rfl ?_ ?_<;>intro hc0<;>try simp only [cS] at hc0
 obtain ⟨m9,hm9⟩:∃ x,y.moves[j]?=some x:=⟨_,List.getElem?_eq_getElem (by omega)⟩
 have hgt:=Zb1 hm9
 have hgl:(Wv.grows (Zx (y.moves.take j))).length≤y.moves.length:=by unfold Wv.grows Zx;rw [List.length_map,List.length_map];exact Nat.le_trans (List.length_filter_le _ _) (by rw [List.length_take];omega)
 refine Zi (a:=a2) (sz:=5) (rows:=Zn y.moves) (ZK (Z2s hm9)) (fun bm2 om2 he=>?_)
 subst he
 refine Z2 (Z0 (Z3 (sqt 4 rfl (sp rfl (PE.indexAddr Zfa rfl rfl (by omega) (by omega)) rfl (spL rfl rfl (lfA Z9s (Z2s hm9) rfl) rfl (alc rfl Z7L rfl (fun b9=>?_)))))))
 refine ZB (l':=Z07 m9) rfl rfl rfl ZcH rfl rfl rfl rfl (nl rfl) ?_
 refine sqt 8 rfl (sp rfl (PE.fA Z0z rfl) rfl (spL rfl rfl (lh (v:=.int .i64 m9.fr) sc3 rfl rfl) rfl (pur 2 rfl ?_)))
 refine Zw 45 rfl ?_ ?_<;>intro g45
 try simp only [cS] at g45
 refine spG rfl rfl rfl rfl (PE.fA Z1J rfl) rfl ?_
 refine Z0U rfl rfl rfl rfl rfl (lh (v:=.int .i64 m9.to) sc3 rfl rfl) rfl (pur 2 rfl ?_)
 refine Z1 rfl ?_ ?_<;>intro hc1<;>try simp only [cS] at hc1
 have hin:inn m9=true:=by unfold inn;rw [decide_eq_true g45,dT hc1];rfl
 rw [hin,if_pos rfl] at hgt
 refine sqr 11 rfl (sp rfl (PE.fA Z10 rfl) rfl (spL rfl rfl (lh (v:=oG.fs) Z7B rfl rfl) rfl (sp rfl (PE.fA Z0z rfl) rfl (spL rfl rfl (lh (v:=.int .i64 m9.fr) sc3 rfl rfl) rfl (sp rfl (PE.fA Z1J rfl) rfl (spL rfl rfl (lh (v:=.int .i64 m9.to) sc3 rfl rfl) rfl (sp rfl (PE.build (out:=[_,_]) Zc7 Z6W rfl rfl) rfl ?_)))))))
 refine bsl (out:=[_,_]) rfl Zk3 Z6W rfl rfl rfl rfl rfl rfl (fun b57=>?_)
 refine apO (oG) rfl Zkt rfl rfl (ZU (row:=Wv.grow ⟨m9.fr,m9.to⟩) rfl) rfl rfl ((by simp only [List.length_cons,List.length_nil];omega)) rfl (fun o58=>?_)
 refine sp rfl (PE.fA Z10 rfl) rfl ?_
 refine ZB (l':=[.int .i64 (y.bins.length:Int),o58.fs,Zl]) rfl rfl rfl ZkA rfl (by rw [o58.cells.1];first | done | rfl) (by rw [o58.cells.1];simp [o58.cells.2]) (by rw [o58.cells.1];first | done | rfl) (by rw [o58.cells.1];first | done | exact Nat.le_of_ble_eq_true rfl) ?_
 refine sqr 2 rfl (sp rfl (PE.add rfl rfl (by omega)) rfl (pur 1 rfl ?_))
 exact Z7 ⟨⟨j+1,by omega⟩,o58.cast (by rw [hgt];simp [Wv.grows])⟩ (fun w h=>(h.del b57).del b9)
 have hin:inn m9=false:=by unfold inn;rw [dF (show ¬ m9.to ≠ -1 by omega),Bool.and_false]
 refine Z2 (sqr 2 rfl (sp rfl (PE.add rfl rfl (by omega)) rfl (pur 1 rfl ?_)))
 rw [hin] at hgt
 exact Z7 ⟨⟨j+1,by omega⟩,oG.cast (by rw [hgt];simp)⟩ (fun w h=>h.del b9)
 try simp only [cS] at g45
 have hin:inn m9=false:=by unfold inn;rw [dF (show ¬ m9.fr ≠ -1 by omega)];rfl
 refine pur 4 rfl ?_
 refine ZG rfl ?_
 refine Z2 (sqr 2 rfl (sp rfl (PE.add rfl rfl (by omega)) rfl (pur 1 rfl ?_)))
 rw [hin] at hgt
 exact Z7 ⟨⟨j+1,by omega⟩,oG.cast (by rw [hgt];simp)⟩ (fun w h=>h.del b9)
 obtain rfl:j=y.moves.length:=by omega
 have hhok:=Z8l hy
 have hhgl:=hhok.gl
 obtain ⟨oG2,h1oG,h2oG⟩:∃ o':OSl 97 2 (Wv.grows (Zx y.moves)),o'.fs=oG.fs∧o'.G=oG.G:=⟨oG.cast (by rw [List.take_length]),rfl,rfl⟩
 rw [← h1oG,← h2oG]
 obtain ⟨ag,cg,eG,hG⟩:=oG2.freeze
 rw [show (Wv.grows (Zx y.moves)).length=(Zx y.moves).length by unfold Wv.grows;rw [List.length_map]] at eG
 rw [eG]
 refine Sy.heap (R':=RowsA none 3 (Wv.srows [])::RowsA ag 2 (Wv.grows (Zx y.moves))::RowsA a1 3 (Zf y.bins)::RowsA a2 5 (Zn y.moves)::RowsA a3 4 (Zy y.levels)::R) (fun w h=>(hG h).also (fun w9 _ i row hi=>by cases hi)) ?_
 clear hG
 obtain ⟨vg,hvg⟩:∃ v,v=Value.slice ag (Zx y.moves).length cg:=⟨_,rfl⟩
 refine Z9 (Za (Za (Zh (Z0 ?_))))
 refine Z4G (ι:={x:Option Addr×Nat×List Int×Nat // x.2.2.1.length=y.bins.length∧∀ m∈y.moves,m.fr ≠ -1→m.to ≠ -1→(fun b=>decide (Wv.na x.2.2.1 b = -1)) m.fr.toNat=(fun b=>decide (Wv.na x.2.2.1 b = -1)) m.to.toNat}) (fun x=>⟨[(1,.int .u8 n1),(5,.pointer (some ⟨b5,0,none⟩)),(7,.pointer (some ⟨b7,0,none⟩)),(10,.pointer (some ⟨x.1.2.2.2,0,none⟩)),(11,.int .i64 0)],(x.1.2.2.2,cel 23 [.slice x.1.1 y.bins.length x.1.2.1])::(b7,cel 95 [.int .i64 (y.bins.length:Int),vg,Zl])::(b6,cel 89 [va1,va2])::(b5,cel 60 (ydl y a1 a2 a3 k1 k2 k3))::(bq,cel 111 [.slice a0 l0.length c0,.int .i64 (tqy),.int .u32 (mxy)])::H,RowsA x.1.1 1 (Z6 x.1.2.2.1)::RowsA a1 3 (Zf y.bins)::RowsA a2 5 (Zn y.moves)::RowsA a3 4 (Zy y.levels)::R⟩) ?_ ?_
 refine Zd [0,0,2,0,8,30,62,127,255,511,511,0,3071,8191] (.ld 0 (tks 1 3 (.ld 4 (.tk 5 (.any (.alt 6 (.any (.alt 7 (tks 8 3 (.big 11 (.big 12 (.tk 13 .done)))) (.alt 11 (.big 7 (tks 8 3 (.big 12 (.tk 13 .done)))) .stop))) (.alt 11 (.big 6 (.big 7 (tks 8 3 (.big 12 (.tk 13 .done))))) .stop))))))) Zt (by kernel_rfl) ?_
 refine ld rfl rfl (lhA [.int .i64 (y.bins.length:Int),.slice ag (Zx y.moves).length cg,Zl] Z2m rfl (rest:=[]) rfl rfl) rfl (Zm 1 rfl (tk rfl (PE.conv64 us5 ik3 rfl (by omega)) rfl (tk rfl (PE.fA Z2r rfl) rfl (ld rfl rfl (lh sc3 rfl rfl) rfl (tk rfl (PE.rem rfl rfl (by omega)) rfl ?_)))))
 refine ZI ?_ ?_
 refine bsl (out:=[_]) rfl Z0F zl3 rfl rfl rfl rfl rfl rfl (fun b68=>?_)
 refine bg (fun w hs=>⟨trivial,(lhA [.int .i64 (y.bins.length:Int),.slice ag (Zx y.moves).length cg,Zl] Z2m rfl (rest:=[]) rfl rfl) w hs,trivial⟩) ?_
 refine ZI ?_ ?_
 obtain ⟨x0,hx0⟩:∃ x,x=n1%(y.bins.length:Int):=⟨_,rfl⟩
 rw [← hx0]
 have hxr:0≤x0∧x0<(y.bins.length:Int):=by rw [hx0];exact ⟨Int.emod_nonneg _ (by omega),Int.emod_lt_of_pos _ (by omega)⟩
 refine Sy.heap (fun w h9=>St.rows (sz:=1) (rows:=Z6 [x0]) (rest:=[]) (h9.pull b68) (by simp)) ?_
 refine cl rfl Zat rfl rfl (Wv.c_WeeksK (Wv.Hse.mk (y.bins.length:Int) (Zx y.moves) []) ag none cg 0 hhok [x0] (some ⟨b68,0,none⟩) 1 (Wv.one_ls hxr) (by simp) (by simp) _ _) ?_
 rintro _ _ R1 ⟨aw,cw,rfl,rfl,hR1⟩
 obtain rfl:=hR1.symm
 clear hR1
 have hwl:((Wv.Hse.mk (y.bins.length:Int) (Zx y.moves) []).weeksV [x0]).length=y.bins.length:=(Wv.weeksV_len hhok [x0]).trans (by show ((y.bins.length:Int)).toNat=_;omega)
 have hW:=Z4r hy hxr
 obtain ⟨wv,hwv⟩:∃ w,w=((Wv.Hse.mk (y.bins.length:Int) (Zx y.moves) []).weeksV [x0]):=⟨_,rfl⟩
 rw [← hwv] at hwl hW ⊢
 rw [show ((Wv.Hse.mk (y.bins.length:Int) (Zx y.moves) [])).bins.toNat=y.bins.length by show ((y.bins.length:Int)).toNat=_;omega,← hvg]
 refine bgT (Zm 3 rfl (alc rfl Zc2 rfl (fun b10=>bgT ?_)))
 refine sto rfl rfl rfl Z6g rfl rfl rfl rfl ?_
 refine bgT (Zm 1 rfl ?_)
 exact Zu ⟨(aw,cw,wv,b10),hwl,hW⟩ (fun w h=>St.sub h)
 refine ZI ?_ ?_
 refine alc rfl Zc2 rfl (fun b10=>?_)
 refine bg (fun w hs=>⟨(lhA [.int .i64 (y.bins.length:Int),.slice ag (Zx y.moves).length cg,Zl] Z2m rfl (rest:=[]) rfl rfl) w hs,trivial⟩) ?_
 obtain ⟨x0,hx0⟩:∃ x,x=n1%(y.bins.length:Int):=⟨_,rfl⟩
 rw [← hx0]
 have hxr:0≤x0∧x0<(y.bins.length:Int):=by rw [hx0];exact ⟨Int.emod_nonneg _ (by omega),Int.emod_lt_of_pos _ (by omega)⟩
 refine Sy.heap (fun w h9=>St.rows (sz:=1) (rows:=Z6 [x0]) (rest:=[]) (h9.pull b68) (by simp)) ?_
 refine cl rfl Zat rfl rfl (Wv.c_WeeksK (Wv.Hse.mk (y.bins.length:Int) (Zx y.moves) []) ag none cg 0 hhok [x0] (some ⟨b68,0,none⟩) 1 (Wv.one_ls hxr) (by simp) (by simp) _ _) ?_
 rintro _ _ R1 ⟨aw,cw,rfl,rfl,hR1⟩
 obtain rfl:=hR1.symm
 clear hR1
 have hwl:((Wv.Hse.mk (y.bins.length:Int) (Zx y.moves) []).weeksV [x0]).length=y.bins.length:=(Wv.weeksV_len hhok [x0]).trans (by show ((y.bins.length:Int)).toNat=_;omega)
 have hW:=Z4r hy hxr
 obtain ⟨wv,hwv⟩:∃ w,w=((Wv.Hse.mk (y.bins.length:Int) (Zx y.moves) []).weeksV [x0]):=⟨_,rfl⟩
 rw [← hwv] at hwl hW ⊢
 rw [show ((Wv.Hse.mk (y.bins.length:Int) (Zx y.moves) [])).bins.toNat=y.bins.length by show ((y.bins.length:Int)).toNat=_;omega,← hvg]
 refine bgT (Zm 3 rfl ?_)
 refine sto rfl rfl rfl Z6g rfl rfl rfl rfl ?_
 refine bgT (Zm 1 rfl ?_)
 exact Zu ⟨(aw,cw,wv,b10),hwl,hW⟩ (fun w h=>St.sub h)
 exact Z0f
 refine ZI ?_ ?_
 refine alc rfl Zc2 rfl (fun b10=>?_)
 refine bg (fun w hs=>⟨(lh sc3 rfl rfl) w hs,(lhA [.int .i64 (y.bins.length:Int),.slice ag (Zx y.moves).length cg,Zl] Z2m rfl (rest:=[]) rfl rfl) w hs,trivial⟩) ?_
 refine bsl (out:=[_]) rfl Z0F zl3 rfl rfl rfl rfl rfl rfl (fun b68=>?_)
 refine bg (fun w hs=>⟨trivial,(lhA [.int .i64 (y.bins.length:Int),.slice ag (Zx y.moves).length cg,Zl] Z2m rfl (rest:=[]) rfl rfl) w hs,trivial⟩) ?_
 obtain ⟨x0,hx0⟩:∃ x,x=n1%(y.bins.length:Int):=⟨_,rfl⟩
 rw [← hx0]
 have hxr:0≤x0∧x0<(y.bins.length:Int):=by rw [hx0];exact ⟨Int.emod_nonneg _ (by omega),Int.emod_lt_of_pos _ (by omega)⟩
 refine Sy.heap (fun w h9=>St.rows (sz:=1) (rows:=Z6 [x0]) (rest:=[]) (h9.pull b68) (by simp)) ?_
 refine cl rfl Zat rfl rfl (Wv.c_WeeksK (Wv.Hse.mk (y.bins.length:Int) (Zx y.moves) []) ag none cg 0 hhok [x0] (some ⟨b68,0,none⟩) 1 (Wv.one_ls hxr) (by simp) (by simp) _ _) ?_
 rintro _ _ R1 ⟨aw,cw,rfl,rfl,hR1⟩
 obtain rfl:=hR1.symm
 clear hR1
 have hwl:((Wv.Hse.mk (y.bins.length:Int) (Zx y.moves) []).weeksV [x0]).length=y.bins.length:=(Wv.weeksV_len hhok [x0]).trans (by show ((y.bins.length:Int)).toNat=_;omega)
 have hW:=Z4r hy hxr
 obtain ⟨wv,hwv⟩:∃ w,w=((Wv.Hse.mk (y.bins.length:Int) (Zx y.moves) []).weeksV [x0]):=⟨_,rfl⟩
 rw [← hwv] at hwl hW ⊢
 rw [show ((Wv.Hse.mk (y.bins.length:Int) (Zx y.moves) [])).bins.toNat=y.bins.length by show ((y.bins.length:Int)).toNat=_;omega,← hvg]
 refine bgT (Zm 3 rfl ?_)
 refine sto rfl rfl rfl Z6g rfl rfl rfl rfl ?_
 refine bgT (Zm 1 rfl ?_)
 exact Zu ⟨(aw,cw,wv,b10),hwl,hW⟩ (fun w h=>St.sub h)
 exact Z0f
 rintro ⟨⟨aw,cw,wv,b10⟩,hwl,hW⟩
 dsimp only at hwl hW ⊢
 refine Z0 (sqt 9 rfl (pur 3 rfl ?_))
 refine Zw 74 rfl ?_ ?_<;>intro g74
 exact absurd g74 (by simp)
 refine Z0U rfl rfl rfl rfl rfl (lh (v:=.slice aw y.bins.length cw) Z0x rfl rfl) rfl ?_
 refine spG rfl rfl rfl rfl (PE.lenSl ZT rfl) rfl ?_
 refine spG rfl rfl rfl rfl (PE.fA Z2r rfl) rfl ?_
 refine Z0U rfl rfl rfl rfl rfl (lh sc3 rfl rfl) rfl (pur 2 rfl ?_)
 refine Z1 rfl ?_ ?_<;>intro hc2
 exact absurd hc2 (by simp)
 refine Z2 (sqt 5 rfl (sp rfl (PE.fA Z18 rfl) rfl (spL rfl rfl (lh (v:=.int .i64 (y.days:Int)) sc3 rfl rfl) rfl (sp rfl (PE.build (out:=[.int .i64 (y.days:Int),Zl,Zl,Zl]) ZjP Zg0 rfl rfl) rfl (alc rfl Zg0 rfl (fun b12=>?_))))))
 refine ZB (l':=[.int .i64 (y.days:Int),Zl,Zl,Zl]) rfl rfl rfl ZhN rfl rfl rfl rfl (nl rfl) ?_
 refine Z0 (sqt 4 rfl (sp rfl (PE.fA Z0o rfl) rfl (spL rfl rfl (lh Z2I rfl rfl) rfl (sp rfl (PE.lenSl Z2R rfl) rfl (pur 1 rfl (Z3 ?_))))))
 have hob:=Z1c y (fun b=>decide (Wv.na wv b = -1))
 refine Zb (ι:=(j:{j:Nat // j≤y.bins.length})×OSl 62 3 (Zf ((y.off (fun b=>decide (Wv.na wv b = -1))).bins.take j.1))) (fun x=>⟨[(1,.int .u8 n1),(5,.pointer (some ⟨b5,0,none⟩)),(7,.pointer (some ⟨b7,0,none⟩)),(10,.pointer (some ⟨b10,0,none⟩)),(12,.pointer (some ⟨b12,0,none⟩)),(85,.slice a1 y.bins.length k1),(86,.int .i64 (y.bins.length:Int)),(87,.int .i64 (x.1.1:Int))],x.2.G++((b12,cel 60 [.int .i64 (y.days:Int),x.2.fs,Zl,Zl])::(b10,cel 23 [.slice aw y.bins.length cw])::(b7,cel 95 [.int .i64 (y.bins.length:Int),vg,Zl])::(b6,cel 89 [va1,va2])::(b5,cel 60 (ydl y a1 a2 a3 k1 k2 k3))::(bq,cel 111 [.slice a0 l0.length c0,.int .i64 (tqy),.int .u32 (mxy)])::H),RowsA aw 1 (Z6 wv)::RowsA a1 3 (Zf y.bins)::RowsA a2 5 (Zn y.moves)::RowsA a3 4 (Zy y.levels)::R⟩) (fun x=>y.bins.length-x.1.1) ⟨⟨0,Nat.zero_le _⟩,OSl.nil _ _⟩ ?_ (fun x=>?_)
 exact Ze (fun w h=>St.sub ((((h.pull b7).pull b10).pull b12)))
 obtain ⟨⟨b,hb⟩,oZ⟩:=x
 dsimp only at hb oZ ⊢
 refine sqt 1 rfl (pur 1 rfl (Z0 ?_))
 refine Z1 rfl ?_ ?_<;>intro hc3<;>try simp only [cS] at hc3
 obtain ⟨hbo,hbx⟩:=Z41 hy (b:=b) (by omega)
 have hzx:(y.off (fun b=>decide (Wv.na wv b = -1))).bins[b]?=some (bif (fun b=>decide (Wv.na wv b = -1)) b then y.binD b else ⟨0,⟨0,0⟩⟩):=by show ((List.range y.bins.length).map _)[b]?=_;rw [List.getElem?_map,List.getElem?_range (by omega)];rfl
 refine Zi (a:=a1) (sz:=3) (rows:=Zf y.bins) (ZK (Z7Q hbx)) (fun bb1 ob1 he=>?_)
 subst he
 refine Zi (a:=aw) (sz:=1) (rows:=Z6 wv) (ne0 (by rw [irl];omega)) (fun bw ow he=>?_)
 subst he
 refine Z2 (Z0 (Z3 (sqt 6 rfl (pur 1 rfl (sp rfl (PE.indexAddr ZhS rfl rfl (by omega) (by omega)) rfl (spL rfl rfl (lfA Zg2 (Z7Q hbx) rfl) rfl (alc rfl Zg1 rfl (fun b14=>pur 1 rfl ?_))))))))
 refine ZB (l':=Z0l (y.binD b)) rfl rfl rfl ZiL rfl rfl rfl rfl (nl rfl) ?_
 refine Z0 (sqt 5 rfl (spL rfl rfl (lh (v:=.slice (some ⟨bw,ow,none⟩) y.bins.length cw) Z0x rfl rfl) rfl (pur 1 rfl (sp rfl (PE.indexAddr Z0G rfl rfl (by omega) (by omega)) rfl (spL rfl rfl (lf0 (x:=.int .i64 (Wv.na wv b)) sc3 (ZQ (ZR (l:=wv) (k:=b) (by omega))) rfl) rfl (pur 1 rfl ?_))))))
 refine Z22 (ι:=Unit) (fun _=>⟨[(1,.int .u8 n1),(5,.pointer (some ⟨b5,0,none⟩)),(7,.pointer (some ⟨b7,0,none⟩)),(10,.pointer (some ⟨b10,0,none⟩)),(12,.pointer (some ⟨b12,0,none⟩)),(13,.int .i64 (b:Int)),(14,.pointer (some ⟨b14,0,none⟩)),(85,.slice (some ⟨bb1,ob1,none⟩) y.bins.length k1),(86,.int .i64 (y.bins.length:Int)),(87,.int .i64 (b:Int))],(b14,cel 62 (Z0l (bif (fun b=>decide (Wv.na wv b = -1)) b then y.binD b else ⟨0,⟨0,0⟩⟩)))::(oZ.G++((b12,cel 60 [.int .i64 (y.days:Int),oZ.fs,Zl,Zl])::(b10,cel 23 [.slice (some ⟨bw,ow,none⟩) y.bins.length cw])::(b7,cel 95 [.int .i64 (y.bins.length:Int),vg,Zl])::(b6,cel 89 [va1,va2])::(b5,cel 60 (ydl y (some ⟨bb1,ob1,none⟩) a2 a3 k1 k2 k3))::(bq,cel 111 [.slice a0 l0.length c0,.int .i64 (tqy),.int .u32 (mxy)])::H)),RowsA (some ⟨bw,ow,none⟩) 1 (Z6 wv)::RowsA (some ⟨bb1,ob1,none⟩) 3 (Zf y.bins)::RowsA a2 5 (Zn y.moves)::RowsA a3 4 (Zy y.levels)::R⟩) ?_ ?_
 refine Z1 rfl ?_ ?_<;>intro hc4<;>try simp only [cS] at hc4
 refine sqr 2 rfl (sp rfl (PE.build (out:=Z0l ⟨0,⟨0,0⟩⟩) (parts:=[]) ZjQ Zg1 rfl rfl) rfl ?_)
 refine ZB (l':=Z0l ⟨0,⟨0,0⟩⟩) rfl rfl rfl ZiL rfl rfl rfl rfl (nl rfl) ?_
 rw [show (fun b=>decide (Wv.na wv b = -1)) b=false from dF hc4]
 exact ZY () idH
 refine Z2 ?_
 rw [show (fun b=>decide (Wv.na wv b = -1)) b=true from dT (show Wv.na wv b = -1 by omega)]
 exact ZY () idH
 rintro ⟨⟩
 dsimp only
 refine sqr 7 rfl (sp rfl (PE.fA Z0o rfl) rfl (spL rfl rfl (lh (v:=oZ.fs) Z2I rfl rfl) rfl (spL rfl rfl (lhA (Z0l (bif (fun b=>decide (Wv.na wv b = -1)) b then y.binD b else ⟨0,⟨0,0⟩⟩)) Zg2 rfl (rest:=[]) rfl rfl) rfl ?_)))
 refine bsl (out:=[_,_,_]) rfl Zk1 Zg1 rfl rfl rfl rfl rfl rfl (fun b101=>?_)
 refine apO (oZ) rfl Zj2 rfl rfl (ZU (row:=Z0l (bif (fun b=>decide (Wv.na wv b = -1)) b then y.binD b else ⟨0,⟨0,0⟩⟩)) rfl) rfl rfl ((by simp only [brl,List.length_take,List.length_cons,List.length_nil];omega)) rfl (fun o102=>?_)
 refine sp rfl (PE.fA Z0o rfl) rfl ?_
 refine ZB (l':=[.int .i64 (y.days:Int),o102.fs,Zl,Zl]) rfl rfl rfl ZjD rfl (by rw [o102.cells.1];first | done | rfl) (by rw [o102.cells.1];simp [o102.cells.2]) (by rw [o102.cells.1];first | done | rfl) (by rw [o102.cells.1];first | done | exact Nat.le_of_ble_eq_true rfl) ?_
 refine sqr 2 rfl (sp rfl (PE.add rfl rfl (by omega)) rfl (pur 1 rfl ?_))
 exact Z7 ⟨⟨b+1,by omega⟩,o102.cast (by rw [List.take_add_one,hzx];simp [Zf])⟩ (fun w h=>(h.del b101).del b14)
 obtain rfl:b=y.bins.length:=by omega
 obtain ⟨oZ2,h1oZ,h2oZ⟩:∃ o':OSl 62 3 (Zf (y.off (fun b=>decide (Wv.na wv b = -1))).bins),o'.fs=oZ.fs∧o'.G=oZ.G:=⟨oZ.cast (by rw [List.take_of_length_le (by rw [hob];exact Nat.le_refl _)]),rfl,rfl⟩
 rw [← h1oZ,← h2oZ]
 obtain ⟨az,cz,eZ,hZ⟩:=oZ2.freeze
 rw [brl,hob] at eZ
 rw [eZ]
 refine Sy.heap (fun w h=>hZ h) ?_
 clear hZ
 refine Z9 (Za (Za (Zh (sqt 2 rfl (sp rfl (PE.makeFunc rfl rfl) rfl (pur 1 rfl (Z0 (sqt 4 rfl (sp rfl (PE.fA Z0H rfl) rfl (spL rfl rfl (lh Z6M rfl rfl) rfl (sp rfl (PE.lenSl Z6z rfl) rfl (pur 1 rfl (Z3 ?_)))))))))))))
 refine Zb (ι:=(j:{j:Nat // j≤y.moves.length})×OSl 83 5 (Zn ((y.moves.take j.1).filter fun m=>apB (fun b=>decide (Wv.na wv b = -1)) m.fr&&apB (fun b=>decide (Wv.na wv b = -1)) m.to))) (fun x=>⟨[(1,.int .u8 n1),(5,.pointer (some ⟨b5,0,none⟩)),(7,.pointer (some ⟨b7,0,none⟩)),(10,.pointer (some ⟨b10,0,none⟩)),(12,.pointer (some ⟨b12,0,none⟩)),(15,.func (.func 25) #[] #[.pointer (some ⟨b10,0,none⟩)]),(107,.slice a2 y.moves.length k2),(108,.int .i64 (y.moves.length:Int)),(109,.int .i64 (x.1.1:Int))],x.2.G++((b12,cel 60 [.int .i64 (y.days:Int),.slice az y.bins.length cz,x.2.fs,Zl])::(b10,cel 23 [.slice aw y.bins.length cw])::(b7,cel 95 [.int .i64 (y.bins.length:Int),vg,Zl])::(b6,cel 89 [va1,va2])::(b5,cel 60 (ydl y a1 a2 a3 k1 k2 k3))::(bq,cel 111 [.slice a0 l0.length c0,.int .i64 (tqy),.int .u32 (mxy)])::H),RowsA az 3 (Zf (y.off (fun b=>decide (Wv.na wv b = -1))).bins)::RowsA aw 1 (Z6 wv)::RowsA a1 3 (Zf y.bins)::RowsA a2 5 (Zn y.moves)::RowsA a3 4 (Zy y.levels)::R⟩) (fun x=>y.moves.length-x.1.1) ⟨⟨0,Nat.zero_le _⟩,OSl.nil _ _⟩ ?_ (fun x=>?_)
 exact Ze idH
 obtain ⟨⟨j,hj⟩,oM⟩:=x
 dsimp only at hj oM ⊢
 refine sqt 1 rfl (pur 1 rfl (Z0 ?_))
 refine Z1 rfl ?_ ?_<;>intro hc5<;>try simp only [cS] at hc5
 obtain ⟨m9,hm9⟩:∃ x,y.moves[j]?=some x:=⟨_,List.getElem?_eq_getElem (by omega)⟩
 have hmo:=hy.mov m9 (List.mem_of_getElem? hm9)
 have hft:=Z6q (p:=fun m=>apB (fun b=>decide (Wv.na wv b = -1)) m.fr&&apB (fun b=>decide (Wv.na wv b = -1)) m.to) hm9
 have hfl:((y.moves.take j).filter fun m=>apB (fun b=>decide (Wv.na wv b = -1)) m.fr&&apB (fun b=>decide (Wv.na wv b = -1)) m.to).length≤y.moves.length:=Nat.le_trans (List.length_filter_le _ _) (by rw [List.length_take];omega)
 refine Zi (a:=a2) (sz:=5) (rows:=Zn y.moves) (ZK (Z2s hm9)) (fun bm2 om2 he=>?_)
 subst he
 refine Z2 (Z0 (Z3 (sqt 4 rfl (sp rfl (PE.indexAddr Zfa rfl rfl (by omega) (by omega)) rfl (spL rfl rfl (lfA Z9s (Z2s hm9) rfl) rfl (alc rfl Z7L rfl (fun b17=>?_)))))))
 refine ZB (l':=Z07 m9) rfl rfl rfl ZcH rfl rfl rfl rfl (nl rfl) ?_
 refine sqt 10 rfl (pur 1 rfl (sp rfl (PE.fA Z0z rfl) rfl (spL rfl rfl (lh (v:=.int .i64 m9.fr) sc3 rfl rfl) rfl ?_)))
 refine Z3t rfl rfl (Zcy) rfl rfl (Z5j wv aw y.bins.length cw b10 hwl m9.fr (by omega) _ _) ?_
 refine pur 1 rfl ?_
 refine Zw 117 rfl ?_ ?_<;>intro g117
 refine pur 1 rfl ?_
 refine spG rfl rfl rfl rfl (PE.fA Z1J rfl) rfl ?_
 refine Z0U rfl rfl rfl rfl rfl (lh (v:=.int .i64 m9.to) sc3 rfl rfl) rfl ?_
 refine Z7a rfl rfl rfl rfl rfl (Zcy) rfl rfl (Z5j wv aw y.bins.length cw b10 hwl m9.to (by omega) _ _) ?_
 refine pur 1 rfl ?_
 refine Z1 rfl ?_ ?_<;>intro hc6
 rw [g117,show apB (fun b=>decide (Wv.na wv b = -1)) m9.to=true from hc6,Bool.and_true,if_pos rfl] at hft
 refine sqr 7 rfl (sp rfl (PE.fA Z0H rfl) rfl (spL rfl rfl (lh (v:=oM.fs) Z6M rfl rfl) rfl (spL rfl rfl (lhA (Z07 m9) Z9s rfl (rest:=[]) rfl rfl) rfl ?_)))
 refine bsl (out:=[_,_,_,_,_]) rfl ZiR Z7L rfl rfl rfl rfl rfl rfl (fun b126=>?_)
 refine apO (oM) rfl Zg8 rfl rfl (ZU (row:=Z07 m9) rfl) rfl rfl ((by simp only [mrl,List.length_cons,List.length_nil];omega)) rfl (fun o127=>?_)
 refine sp rfl (PE.fA Z0H rfl) rfl ?_
 refine ZB (l':=[.int .i64 (y.days:Int),.slice az y.bins.length cz,o127.fs,Zl]) rfl rfl rfl ZhM rfl (by rw [o127.cells.1];first | done | rfl) (by rw [o127.cells.1];simp [o127.cells.2]) (by rw [o127.cells.1];first | done | rfl) (by rw [o127.cells.1];first | done | exact Nat.le_of_ble_eq_true rfl) ?_
 refine sqr 2 rfl (sp rfl (PE.add rfl rfl (by omega)) rfl (pur 1 rfl ?_))
 exact Z7 ⟨⟨j+1,by omega⟩,o127.cast (by rw [hft];simp [Zn])⟩ (fun w h=>(h.del b126).del b17)
 refine Z2 (sqr 2 rfl (sp rfl (PE.add rfl rfl (by omega)) rfl (pur 1 rfl ?_)))
 rw [g117,show apB (fun b=>decide (Wv.na wv b = -1)) m9.to=false from hc6,Bool.and_false] at hft
 exact Z7 ⟨⟨j+1,by omega⟩,oM.cast (by rw [hft];simp)⟩ (fun w h=>h.del b17)
 refine pur 5 rfl ?_
 refine ZG rfl ?_
 refine Z2 (sqr 2 rfl (sp rfl (PE.add rfl rfl (by omega)) rfl (pur 1 rfl ?_)))
 rw [g117,Bool.false_and] at hft
 exact Z7 ⟨⟨j+1,by omega⟩,oM.cast (by rw [hft];simp)⟩ (fun w h=>h.del b17)
 obtain rfl:j=y.moves.length:=by omega
 obtain ⟨oM2,h1oM,h2oM⟩:∃ o':OSl 83 5 (Zn (y.off (fun b=>decide (Wv.na wv b = -1))).moves),o'.fs=oM.fs∧o'.G=oM.G:=⟨oM.cast (by rw [List.take_length];rfl),rfl,rfl⟩
 rw [← h1oM,← h2oM]
 obtain ⟨am,cm,eM,hM⟩:=oM2.freeze
 rw [mrl] at eM
 rw [eM]
 refine Sy.heap (R':=RowsA am 5 (Zn (y.off (fun b=>decide (Wv.na wv b = -1))).moves)::RowsA az 3 (Zf (y.off (fun b=>decide (Wv.na wv b = -1))).bins)::RowsA aw 1 (Z6 wv)::RowsA a1 3 (Zf y.bins)::RowsA a2 5 (Zn y.moves)::RowsA a3 4 (Zy y.levels)::R) (fun w h=>hM h) ?_
 clear hM
 refine Z9 (Za (Za (Zh (Z0 (sqt 4 rfl (sp rfl (PE.fA Z1T rfl) rfl (spL rfl rfl (lh Zdi rfl rfl) rfl (sp rfl (PE.lenSl Zb6 rfl) rfl (pur 1 rfl (Z3 ?_))))))))))
 refine Zb (ι:=(j:{j:Nat // j≤y.levels.length})×OSl 102 4 (Zy ((y.levels.take j.1).filter fun l=>apB (fun b=>decide (Wv.na wv b = -1)) l.bin))) (fun x=>⟨[(1,.int .u8 n1),(5,.pointer (some ⟨b5,0,none⟩)),(7,.pointer (some ⟨b7,0,none⟩)),(10,.pointer (some ⟨b10,0,none⟩)),(12,.pointer (some ⟨b12,0,none⟩)),(15,.func (.func 25) #[] #[.pointer (some ⟨b10,0,none⟩)]),(131,.slice a3 y.levels.length k3),(132,.int .i64 (y.levels.length:Int)),(133,.int .i64 (x.1.1:Int))],x.2.G++((b12,cel 60 [.int .i64 (y.days:Int),.slice az y.bins.length cz,.slice am (y.off (fun b=>decide (Wv.na wv b = -1))).moves.length cm,x.2.fs])::(b10,cel 23 [.slice aw y.bins.length cw])::(b7,cel 95 [.int .i64 (y.bins.length:Int),vg,Zl])::(b6,cel 89 [va1,va2])::(b5,cel 60 (ydl y a1 a2 a3 k1 k2 k3))::(bq,cel 111 [.slice a0 l0.length c0,.int .i64 (tqy),.int .u32 (mxy)])::H),RowsA am 5 (Zn (y.off (fun b=>decide (Wv.na wv b = -1))).moves)::RowsA az 3 (Zf (y.off (fun b=>decide (Wv.na wv b = -1))).bins)::RowsA aw 1 (Z6 wv)::RowsA a1 3 (Zf y.bins)::RowsA a2 5 (Zn y.moves)::RowsA a3 4 (Zy y.levels)::R⟩) (fun x=>y.levels.length-x.1.1) ⟨⟨0,Nat.zero_le _⟩,OSl.nil _ _⟩ ?_ (fun x=>?_)
 exact Ze idH
 obtain ⟨⟨j,hj⟩,oL⟩:=x
 dsimp only at hj oL ⊢
 refine sqt 1 rfl (pur 1 rfl (Z0 ?_))
 refine Z1 rfl ?_ ?_<;>intro hc7<;>try simp only [cS] at hc7
 obtain ⟨v9,hv9⟩:∃ x,y.levels[j]?=some x:=⟨_,List.getElem?_eq_getElem (by omega)⟩
 have hmo:=hy.lev v9 (List.mem_of_getElem? hv9)
 have hft:=Z6q (p:=fun l=>apB (fun b=>decide (Wv.na wv b = -1)) l.bin) hv9
 have hfl:((y.levels.take j).filter fun l=>apB (fun b=>decide (Wv.na wv b = -1)) l.bin).length≤y.levels.length:=Nat.le_trans (List.length_filter_le _ _) (by rw [List.length_take];omega)
 refine Zi (a:=a3) (sz:=4) (rows:=Zy y.levels) (ZK (Z8q hv9)) (fun bv3 ov3 he=>?_)
 subst he
 refine Z2 (Z0 (Z3 (sqt 4 rfl (sp rfl (PE.indexAddr ZiN rfl rfl (by omega) (by omega)) rfl (spL rfl rfl (lfA Z70 (Z8q hv9) rfl) rfl (alc rfl Z4M rfl (fun b19=>?_)))))))
 refine ZB (l':=Z1r v9) rfl rfl rfl Z95 rfl rfl rfl rfl (nl rfl) ?_
 refine sqt 4 rfl (pur 1 rfl (sp rfl (PE.fA Z4h rfl) rfl (spL rfl rfl (lh (v:=.int .i64 v9.bin) sc3 rfl rfl) rfl ?_)))
 refine Z3t rfl rfl (Zcy) rfl rfl (Z5j wv aw y.bins.length cw b10 hwl v9.bin (by omega) _ _) ?_
 refine Z1 rfl ?_ ?_<;>intro hc8
 rw [hc8,if_pos rfl] at hft
 refine sqr 7 rfl (sp rfl (PE.fA Z1T rfl) rfl (spL rfl rfl (lh (v:=oL.fs) Zdi rfl rfl) rfl (spL rfl rfl (lhA (Z1r v9) Z70 rfl (rest:=[]) rfl rfl) rfl ?_)))
 refine bsl (out:=[_,_,_,_]) rfl Zk2 Z4M rfl rfl rfl rfl rfl rfl (fun b144=>?_)
 refine apO (oL) rfl Zj3 rfl rfl (ZU (row:=Z1r v9) rfl) rfl rfl ((by simp only [lrl,List.length_cons,List.length_nil];omega)) rfl (fun o145=>?_)
 refine sp rfl (PE.fA Z1T rfl) rfl ?_
 refine ZB (l':=[.int .i64 (y.days:Int),.slice az y.bins.length cz,.slice am (y.off (fun b=>decide (Wv.na wv b = -1))).moves.length cm,o145.fs]) rfl rfl rfl ZjE rfl (by rw [o145.cells.1];first | done | rfl) (by rw [o145.cells.1];simp [o145.cells.2]) (by rw [o145.cells.1];first | done | rfl) (by rw [o145.cells.1];first | done | exact Nat.le_of_ble_eq_true rfl) ?_
 refine sqr 2 rfl (sp rfl (PE.add rfl rfl (by omega)) rfl (pur 1 rfl ?_))
 exact Z7 ⟨⟨j+1,by omega⟩,o145.cast (by rw [hft];simp [Zy])⟩ (fun w h=>(h.del b144).del b19)
 refine Z2 (sqr 2 rfl (sp rfl (PE.add rfl rfl (by omega)) rfl (pur 1 rfl ?_)))
 rw [hc8] at hft
 exact Z7 ⟨⟨j+1,by omega⟩,oL.cast (by rw [hft];simp)⟩ (fun w h=>h.del b19)
 obtain rfl:j=y.levels.length:=by omega
 obtain ⟨oL2,h1oL,h2oL⟩:∃ o':OSl 102 4 (Zy (y.off (fun b=>decide (Wv.na wv b = -1))).levels),o'.fs=oL.fs∧o'.G=oL.G:=⟨oL.cast (by rw [List.take_length];rfl),rfl,rfl⟩
 rw [← h1oL,← h2oL]
 obtain ⟨al,cl9,eL,hL⟩:=oL2.freeze
 rw [lrl] at eL
 rw [eL]
 refine Sy.heap (R':=RowsA al 4 (Zy (y.off (fun b=>decide (Wv.na wv b = -1))).levels)::RowsA am 5 (Zn (y.off (fun b=>decide (Wv.na wv b = -1))).moves)::RowsA az 3 (Zf (y.off (fun b=>decide (Wv.na wv b = -1))).bins)::RowsA aw 1 (Z6 wv)::RowsA a1 3 (Zf y.bins)::RowsA a2 5 (Zn y.moves)::RowsA a3 4 (Zy y.levels)::R) (fun w h=>hL h) ?_
 clear hL
 have hzok:=Zib hy (fun b=>decide (Wv.na wv b = -1))
 have hzB:∃ B,Feas ((y.off (fun b=>decide (Wv.na wv b = -1))).cells+1) (y.off (fun b=>decide (Wv.na wv b = -1))).flows B:=by
   obtain ⟨B,hB⟩:=hB
   obtain ⟨B',h1,_⟩:=Z5G (W:=(fun b=>decide (Wv.na wv b = -1))) hy hW hB
   rw [Z4s]
   exact ⟨B',h1⟩
 have hzl:ydl (y.off (fun b=>decide (Wv.na wv b = -1))) az am al cz cm cl9=[.int .i64 (y.days:Int),.slice az y.bins.length cz,.slice am (y.off (fun b=>decide (Wv.na wv b = -1))).moves.length cm,.slice al (y.off (fun b=>decide (Wv.na wv b = -1))).levels.length cl9]:=by unfold ydl;rw [hob];rfl
 rw [← hzl]
 refine Z9 (Za (Za (Zh (Z0 (sqt 4 rfl (sp rfl (PE.fA Z0o rfl) rfl (spL rfl rfl (lh Z2I rfl rfl) rfl (sp rfl (PE.lenSl Z2R rfl) rfl (pur 1 rfl (Z3 ?_))))))))))
 refine Zb (ι:={b:Nat // b≤y.bins.length}) (fun b=>⟨[(1,.int .u8 n1),(5,.pointer (some ⟨b5,0,none⟩)),(7,.pointer (some ⟨b7,0,none⟩)),(10,.pointer (some ⟨b10,0,none⟩)),(12,.pointer (some ⟨b12,0,none⟩)),(15,.func (.func 25) #[] #[.pointer (some ⟨b10,0,none⟩)]),(149,.slice a1 y.bins.length k1),(150,.int .i64 (y.bins.length:Int)),(151,.int .i64 (b.1:Int))],(b12,cel 60 (ydl (y.off (fun b=>decide (Wv.na wv b = -1))) az am al cz cm cl9))::(b10,cel 23 [.slice aw y.bins.length cw])::(b7,cel 95 [.int .i64 (y.bins.length:Int),vg,Zl])::(b6,cel 89 [va1,va2])::(b5,cel 60 (ydl y a1 a2 a3 k1 k2 k3))::(bq,cel 111 [.slice a0 l0.length c0,.int .i64 (tqy),.int .u32 (mxy)])::H,RowsA al 4 (Zy (y.off (fun b=>decide (Wv.na wv b = -1))).levels)::RowsA am 5 (Zn (y.off (fun b=>decide (Wv.na wv b = -1))).moves)::RowsA az 3 (Zf (y.off (fun b=>decide (Wv.na wv b = -1))).bins)::RowsA aw 1 (Z6 wv)::RowsA a1 3 (Zf y.bins)::RowsA a2 5 (Zn y.moves)::RowsA a3 4 (Zy y.levels)::R⟩) (fun b=>y.bins.length-b.1) ⟨0,Nat.zero_le _⟩ ?_ (fun b=>?_)
 exact Ze idH
 obtain ⟨b,hb⟩:=b
 dsimp only at hb ⊢
 refine sqt 1 rfl (pur 1 rfl (Z0 ?_))
 refine Z1 rfl ?_ ?_<;>intro hc9
 try simp only [cS] at hc9
 refine Z2 (Z0 (Z3 (sqt 2 rfl (pur 2 rfl (Z0 (sqt 4 rfl (pur 2 rfl ?_)))))))
 refine Z3t rfl rfl (Zcy) rfl rfl (Z5j wv aw y.bins.length cw b10 hwl (b:Int) (by omega) _ _) ?_
 refine pur 1 rfl ?_
 refine Z1 rfl ?_ ?_<;>intro hc10
 refine Z9 (Za (Zh (sqr 2 rfl (sp rfl (PE.add rfl rfl (by omega)) rfl (pur 1 rfl ?_)))))
 exact Z7 ⟨b+1,by omega⟩ idH
 try simp only [cS] at hc10
 have hwb:(fun b=>decide (Wv.na wv b = -1)) b=true:=by
   have h9:apB (fun b=>decide (Wv.na wv b = -1)) (b:Int)=true:=by simpa using hc10
   unfold apB at h9
   rw [dF (show ¬ (b:Int) = -1 by omega),Bool.false_or] at h9
   simpa using h9
 refine Z2 (sqt 8 rfl (spL rfl rfl (lhA (ydl y a1 a2 a3 k1 k2 k3) Z4P rfl rfl rfl) rfl (pur 1 rfl ?_)))
 refine cl rfl Zhu rfl rfl (Z7T y a1 a2 a3 k1 k2 k3 hy hB b (by omega) _ _) ?_
 rintro _ _ R9 ⟨L,oL1,hL,rfl,rfl,hR9⟩
 obtain rfl:=hR9.symm
 clear hR9
 obtain ⟨e1,c1,eL1,hL1⟩:=oL1.freeze
 rw [srl] at eL1
 rw [eL1]
 refine Sy.heap (fun w h=>hL1 h) ?_
 clear hL1
 refine pur 5 rfl (sqt 8 rfl (spL rfl rfl (lhA (ydl (y.off (fun b=>decide (Wv.na wv b = -1))) az am al cz cm cl9) Z4P rfl rfl rfl) rfl (pur 1 rfl ?_)))
 refine cl rfl Zhu rfl rfl (Z7T (y.off (fun b=>decide (Wv.na wv b = -1))) az am al cz cm cl9 hzok hzB b (by rw [hob];omega) _ _) ?_
 rintro _ _ R9 ⟨M,oM1,hM,rfl,rfl,hR9⟩
 obtain rfl:=hR9.symm
 clear hR9
 obtain ⟨e2,c2,eM1,hM1⟩:=oM1.freeze
 rw [srl] at eM1
 rw [eM1]
 refine Sy.heap (fun w h=>hM1 h) ?_
 clear hM1
 have hLM:=Zfy (W:=(fun b=>decide (Wv.na wv b = -1))) hy hW (by omega:b<y.bins.length) hwb hL hM
 have hLl:=hL.1
 have hMl:M.length=y.days+1:=by rw [← hLM];exact hLl
 refine pur 5 rfl (sqt 12 rfl (pur 3 rfl ?_))
 refine Zw 172 rfl ?_ ?_<;>intro g172
 exact absurd g172 (by simp)
 refine pur 4 rfl ?_
 refine Zw 176 rfl ?_ ?_<;>intro g176
 exact absurd g176 (by simp)
 refine pur 2 rfl ?_
 refine Z9t rfl rfl rfl rfl Zji rfl rfl (Zj6 L M e1 e2 c1 c2 (by omega) (by omega) _ _) ?_
 refine pur 2 rfl ?_
 refine Z1 rfl ?_ ?_<;>intro hc11
 exact absurd hc11 (by simp [hLM])
 refine Z2 (sqr 2 rfl (sp rfl (PE.add rfl rfl (by omega)) rfl (pur 1 rfl ?_)))
 exact Z7 ⟨b+1,by omega⟩ (fun w h=>h.ftail.ftail)
 refine Z9 (Za (Za (Zh (sqt 2 rfl ?_))))
 refine clV rfl Zjj rfl rfl (Wv.c_awake _ _) ?_
 refine pur 1 rfl (Z5 ?_)
 exact rtA rfl rfl rfl ⟨rfl,rfl,rfl⟩ (fun w h=>St.sub ((((((h.del b12).del b10).del b7).del b6).del b5).del bq))
end Sk
end Go.Proofs.YtcfdanhklbklkaaGreat
