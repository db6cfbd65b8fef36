/- Walks of the functions of the program, and the laws that join them: what the last theorem of this claim needs, in order. -/
import Derived.Test.YtcfdanhklbklkaaGreatTr5
namespace Go.Proofs.YtcfdanhklbklkaaGreat.Wv
set_option linter.unusedSimpArgs false
set_option linter.unusedVariables false
open Go
theorem ZgK:cal Tryz.prog 150=true:=by kernel_rfl
theorem Zh4:cal Tryz.prog 225=true:=by kernel_rfl
theorem ZhK:ZF Tryz.prog 267=some 10:=by kernel_rfl
theorem Zg1:Zr Tryz.prog 267=some ([.int .i64 0,.int .i64 0,.int .i64 0,.int .i64 0,.int .i64 0,.int .i64 0,.int .i64 0,.int .i64 0,.int .i64 0,.int .i64 0]):=by kernel_rfl
theorem Way.at_ {gs:List Gp} {op:Nat→Bool} {f:Nat→Int} {S K:Nat}:∀ {l:List (Nat×Nat)} {u w:Nat},Way gs op f S K u l w→∀ {q:Nat} {x:Nat×Nat},l[q]?=some x→∃ (g:Gp) (y:Nat),gs[x.1]?=some g∧((g.a.toNat=y∧g.b.toNat=x.2)∨(g.b.toNat=y∧g.a.toNat=x.2))∧(q=0→y=u)∧∀ q',q=q'+1→∃ z,l[q']?=some z∧z.2=y
 | [],_,_,_,q,x,hx=>by simp at hx
 | (i,v)::l,u,w,.cons (g:=g) hg _ _ _ hs h,0,x,hx=>by
   rw [List.getElem?_cons_zero,Option.some.injEq] at hx
   subst hx
   exact ⟨g,u,hg,hs.imp (fun h=>⟨h.1,h.2.1⟩) (fun h=>⟨h.1,h.2.1⟩),fun _=>rfl,fun q' e=>by omega⟩
 | (i,v)::l,u,w,.cons hg _ _ _ hs h,q+1,x,hx=>by
   rw [List.getElem?_cons_succ] at hx
   obtain ⟨g,y,h1,h2,h3,h4⟩:=Way.at_ h hx
   refine ⟨g,y,h1,h2,fun e=>by omega,fun q' e=>?_⟩
   obtain rfl:q=q':=by omega
   cases q with
   | zero=>exact ⟨(i,v),rfl,(h3 rfl).symm⟩
   | succ q=>obtain ⟨z,h5,h6⟩:=h4 q rfl;exact ⟨z,by rw [List.getElem?_cons_succ];exact h5,h6⟩
theorem Way.last {gs:List Gp} {op:Nat→Bool} {f:Nat→Int} {S K:Nat}:∀ {l:List (Nat×Nat)} {u w:Nat},Way gs op f S K u l w→l≠[]→∃ i,l[l.length-1]?=some (i,w)
 | [],_,_,_,h=>absurd rfl h
 | (i,v)::l,u,w,.cons _ _ _ _ _ h,_=>by
   cases l with
   | nil=>cases h;exact ⟨i,rfl⟩
   | cons x l=>obtain ⟨j,hj⟩:=Way.last h (by simp);exact ⟨j,by simpa using hj⟩
theorem Zep (gs:List Gp) (f:Nat→Int) (l:List (Nat×Nat)) (i:Nat):f i-1≤Z3v gs f l i∧Z3v gs f l i≤f i+1:=by
 unfold Z3v
 cases l.find? fun x=>decide (x.1=i) with
 | none=>dsimp only;omega
 | some x =>
   dsimp only
   unfold Z9w
   cases gs[x.1]? with
   | none=>dsimp only;omega
   | some g=>dsimp only;cases decide (g.b.toNat=x.2)<;>simp only [cond_true,cond_false]<;>omega
theorem Z8j {f:Nat→Int} {S K:Nat} {gs:List Gp} (h:Flw f S K gs) (X:Nat):Z1l f X gs≤gs.length:=by
 have h1:=Zay (X:=X) (gs:=gs) h.one
 rw [Z5i] at h1
 have h2:(cutM X gs).length≤gs.length:=by
   unfold cutM
   rw [List.length_map]
   exact Nat.le_trans (List.length_filter_le _ _) (by simp)
 omega
theorem ZfA (n:Nat):na (List.replicate n 0)=fun _=>0:=by
 funext i
 unfold na
 rw [List.getD_eq_getElem?_getD,List.getElem?_replicate]
 split<;>rfl
def atK (l:List Int) (w:Int):Int:=bif hasI l w then w else -1
theorem Zgl {l:List Int} {w:Int}:atK (l++[w]) w=w:=by unfold atK;rw [hasI_iff.2 (by simp)];rfl
theorem ZeB {l:List Int} {w x:Int} (h:x≠w):atK (l++[x]) w=atK l w:=by
 unfold atK
 have:hasI (l++[x]) w=hasI l w:=by
   rw [Bool.eq_iff_iff,hasI_iff,hasI_iff,List.mem_append,List.mem_singleton]
   exact ⟨fun h1=>h1.resolve_right fun e=>h e.symm,.inl⟩
 rw [this]
def Zj7 (gs:List Gp) (op:Nat→Bool) (S K:Nat) (H:Z8) (R:Z5):Value→Z8→Z5→Prop:=fun v H' R'=>∃ (fl:List Int) (V:List (Nat×Int)) (m:Nat),v = .tuple #[.agg (Za fl).toArray,.map (some m)]∧H'=(m,Zz false (vkv V))::H∧R'=R∧fl.length=10∧Flw (na fl) S K gs∧Shn gs op (na fl) S K V
def Zcx (gs:List Gp) (cl X k:Nat):Bool:=(match gs[k]? with | some g=>crs X g | none=>false)&&!cl.testBit k
def ZeZ (gs:List Gp) (cl X:Nat):List Int:=Z9s (Zcx gs cl X) gs.length
theorem Z6h (gs:List Gp) (X:Nat):ZeZ gs 0 X=cutM X gs:=by
 unfold ZeZ Z9s cutM Zcx
 congr 2
 funext k
 simp
 cases gs[k]?<;>rfl
theorem ZaZ {gs:List Gp} {op:Nat→Bool} {f:Nat→Int} {S K:Nat} {V:List (Nat×Int)} (h:Srch gs op f S K V) (v:Nat):((vkv V).get [(v:Int)]).isSome=(Z22 V).testBit v:=by
 rw [Bool.eq_iff_iff,Z0t]
 exact ⟨Z7M,fun hm=>by
   cases hb:((vkv V).get [(v:Int)]).isSome with
   | true=>rfl
   | false=>exact absurd hm (Z7N h.nd hb)⟩
set_option maxHeartbeats 1000000 in
theorem Zgv (d:Dk) (hd:d.Ok) (fr to_:List Int) (af at_:Option Addr) (cf ct:Nat) (hfr:∀ x∈fr,0≤x∧x<7) (hto:∀ x∈to_,0≤x∧x<7) (hnf:fr.Nodup) (hnt:to_.length≤1000000) (hdis:∀ x∈fr,x∉to_) (H:Z8) (R:Z5) [hD:MemRows (some ⟨d.bd,0,none⟩) 4 [d.row] R] [hG:MemRows d.ag 2 (grows d.h.gaps) R] [hS:MemRows d.as_ 3 (srows d.h.sights) R] [sR:SubF d.R0 R] [hF:MemRows af 1 (irows fr) R] [hT:MemRows at_ 1 (irows to_) R] :
    Fn Tryz.prog 150 [.pointer (some ⟨d.bd,0,none⟩),.slice af fr.length cf,.slice at_ to_.length ct] H R (Zj7 d.h.gaps (fun i=>!d.cl.testBit i) (msk fr) (msk to_) H R):=by
 refine Ze Tryz.func150 rfl Tryz.ntmps150 rfl ?_
 refine sqt 2 rfl (alc rfl Zg1 rfl (fun b6=>pur 1 rfl (sqt 1 rfl (alc rfl Zg1 rfl (fun b8=>Z3 ?_)))))
 have hok:=hd.ok
 have hab:∀ (i:Nat) (g:Gp),d.h.gaps[i]?=some g→g.a.toNat≠g.b.toNat:=fun i g hg=>by have:=hok.gaps g (List.mem_of_getElem? hg);omega
 have hns:∀ v:Nat,(msk fr).testBit v=true→(msk to_).testBit v=false:=fun v hv=>by
   cases hk:(msk to_).testBit v with
   | false=>rfl
   | true=>exact absurd ((ZN (fun k hk=>(hto k hk).1) v).1 hk) (hdis _ ((ZN (fun k hk=>(hfr k hk).1) v).1 hv))
 have hgl:=hok.gl
 have hbn:=hok.bins
 have hf0:Flw (na (List.replicate 10 0)) (msk fr) (msk to_) d.h.gaps∧Z1l (na (List.replicate 10 0)) (msk fr) d.h.gaps=0:=by rw [ZfA];exact Flw.zero _ _ _
 refine Zd (ι:={fl:List Int // fl.length=10∧Flw (na fl) (msk fr) (msk to_) d.h.gaps∧0≤Z1l (na fl) (msk fr) d.h.gaps}) (fun fl=>⟨[(0,.pointer (some ⟨d.bd,0,none⟩)),(1,.slice af fr.length cf),(2,.slice at_ to_.length ct),(6,.pointer (some ⟨b6,0,none⟩)),(8,.pointer (some ⟨b8,0,none⟩))],(b8,cel 267 (Za fl.1))::(b6,cel 267 (Za (List.replicate 10 0)))::H,R⟩) (fun fl=>11-(Z1l (na fl.1) (msk fr) d.h.gaps).toNat) ⟨(List.replicate 10 0),by simp,hf0.1,by rw [hf0.2];omega⟩ ?_ (fun fl=>?_)
 exact Zj idH
 obtain ⟨fl,hfl,hfw,hfx⟩:=fl
 dsimp only at hfl hfw hfx ⊢
 have hft:=Z8j hfw (msk fr)
 refine Z3 (sqt 10 rfl (pur 1 rfl (spL rfl rfl (lhI fl Zc4 rfl rfl (hfl)) rfl (pur 2 rfl ?_))))
 refine cl rfl Zh4 rfl rfl (Zjk d hd fl hfl fr to_ af at_ cf ct hfr hto hnf hnt hdis _ _) ?_
 rintro _ _ _ ⟨V,m,a,c,l,rfl,rfl,rfl,hsr,hlw⟩
 refine pur 5 rfl (Z0 (sqt 3 rfl (pur 1 rfl (sp rfl (PE.lenSl ZD rfl) rfl (pur 1 rfl ?_)))))
 refine Z2 rfl ?_ ?_<;>intro hc0<;>try simp only [cS] at hc0
 obtain ⟨rfl,hshn⟩:=hlw.resolve_right (fun h=>h.1 (List.length_eq_zero_iff.1 (by omega)))
 refine sqt 4 rfl (spL rfl rfl (lhI fl Zc4 rfl rfl (hfl)) rfl (pur 1 rfl ?_))
 refine Z4z rfl rfl rfl ZhK rfl (by rw [Z6];exact hfl) rfl (ZA _) ?_
 refine pur 1 rfl (Z4 ?_)
 exact Zg (vs:=[_,_]) rfl (.cons (RV.cell rfl (lhI fl Zc4 rfl rfl (hfl))) (.cons (RV.tmp rfl) .nil)) rfl ⟨fl,V,m,rfl,rfl,rfl,hfl,hfw,hshn⟩ (fun w h=>((h.del b8).del b6).ftail)
 obtain ⟨hl0,u,w,hwk,hwm,hun⟩:=hlw.resolve_left (fun h=>by rw [h.1] at hc0;exact hc0 rfl)
 have hwto:(w:Int)∈to_:=(ZN (fun k hk=>(hto k hk).1) w).1 hwk.to
 have hll:l.length≤10:=by
   have h9:=hwk.nd.length_le_of_subset (l₂:=List.range 10) fun v hv=>by
     obtain ⟨x,hx,rfl⟩:=List.mem_map.1 hv
     obtain ⟨g,y,h1,_⟩:=hwk.way.mem x hx
     have:=(List.getElem?_eq_some_iff.1 h1).1
     exact List.mem_range.2 (by omega)
   simpa using h9
 refine Z1 (sqt 1 rfl (pur 1 rfl (Z0 (sqt 3 rfl (pur 1 rfl (sp rfl (PE.lenSl ZD rfl) rfl (pur 1 rfl (Z3 ?_))))))))
 refine Zd (ι:={k:Nat // k≤to_.length}) (fun k=>⟨[(0,.pointer (some ⟨d.bd,0,none⟩)),(1,.slice af fr.length cf),(2,.slice at_ to_.length ct),(6,.pointer (some ⟨b6,0,none⟩)),(8,.pointer (some ⟨b8,0,none⟩)),(9,.slice a l.length c),(10,.map (some m)),(11,.int .i64 (atK (to_.take k.1) w)),(31,.slice at_ to_.length ct),(32,.int .i64 to_.length),(33,.int .i64 k.1)],(m,Zz false (vkv V))::(b8,cel 267 (Za fl))::(b6,cel 267 (Za (List.replicate 10 0)))::H,RowsA a 1 (irows (l.map fun x:Nat×Nat=>(x.1:Int)))::R⟩) (fun k=>to_.length-k.1) ⟨0,Nat.zero_le _⟩ ?_ (fun k=>?_)
 exact Zj idH
 obtain ⟨k,hk⟩:=k
 dsimp only at hk ⊢
 refine sqt 1 rfl (pur 1 rfl (Z0 ?_))
 refine Z2 rfl ?_ ?_<;>intro hc1<;>try simp only [cS] at hc1
 obtain ⟨x,hx⟩:∃ x,to_[k]?=some x:=⟨_,List.getElem?_eq_getElem (by omega)⟩
 have hx7:=hto x (List.mem_of_getElem? hx)
 obtain ⟨xn,rfl⟩:∃ n:Nat,x=n:=⟨x.toNat,by omega⟩
 have htk:to_.take (k+1)=to_.take k++[(xn:Int)]:=by rw [List.take_add_one,hx];rfl
 have hxk:(msk to_).testBit xn=true:=(ZN (fun k hk=>(hto k hk).1) xn).2 (List.mem_of_getElem? hx)
 obtain ⟨go,hgo⟩:∃ go,(vkv V).get [(xn:Int)]=go:=⟨_,rfl⟩
 refine Zi (a:=at_) (sz:=1) (rows:=irows to_) (ne0 (by rw [irl];omega)) (fun ba oa he=>?_)
 subst he
 refine Z1 (Z0 (Z3 (sqt 3 rfl (sp rfl (PE.indexAddr Z1q rfl rfl (by omega) (by omega)) rfl (spL rfl rfl (lf0 sc3 (ir_get hx) rfl) rfl (pur 1 rfl (sqt 8 rfl (pur 2 rfl ?_))))))))
 refine spK rfl rfl rfl (Z0L (b:=false) (vkv V) [(xn:Int)] Z4f (KeyT.of Z6o Z6H) (ZZ zv3) rfl Z1N true) rfl ?_
 rw [hgo]
 refine pur 5 rfl (sqt 1 rfl (pur 1 rfl ?_))
 refine Z2 rfl ?_ ?_<;>intro hc2
 have hxm:=Z7M (hgo▸hc2)
 obtain ⟨y,hy,hye⟩:=List.mem_map.1 hxm
 have hxw:xn=w:=hye▸hun y hy (hye▸hxk)
 subst hxw
 refine sqr 2 rfl (pur 2 rfl (sqr 2 rfl (sp rfl (PE.add rfl rfl (by omega)) rfl (pur 1 rfl ?_))))
 exact Zx ⟨k+1,by omega⟩ (by dsimp only;omega) (by rw [htk,Zgl];repeat' first | exact Sub.nil | apply Sub.cons | rfl | (simp [lk];omega)) idH
 have hxm:=Z7N hsr.nd (hgo▸hc2)
 have hxw:(xn:Int)≠w:=fun e=>hxm (by rw [show xn=w by omega];exact hwm)
 refine Z1 (sqr 2 rfl (sp rfl (PE.add rfl rfl (by omega)) rfl (pur 1 rfl ?_)))
 exact Zx ⟨k+1,by omega⟩ (by dsimp only;omega) (by rw [htk,ZeB hxw];repeat' first | exact Sub.nil | apply Sub.cons | rfl | (simp [lk];omega)) idH
 obtain rfl:k=to_.length:=by omega
 rw [List.take_length,show atK to_ w=w by unfold atK;rw [hasI_iff.2 hwto];rfl]
 refine Z7 (Z9 (Z9 (Zk (sqt 4 rfl (pur 1 rfl (sp rfl (PE.lenSl ZD rfl) rfl (sp rfl (PE.sub rfl rfl (by omega)) rfl (pur 1 rfl (Z3 ?_)))))))))
 refine Zd (ι:={y:Nat×List Int×Nat // y.1≤l.length∧y.2.1.length=10∧(∀ j,na y.2.1 j=Z3v d.h.gaps (na fl) (l.drop y.1) j)∧(0<y.1→∃ gi,l[y.1-1]?=some (gi,y.2.2))}) (fun y=>⟨[(0,.pointer (some ⟨d.bd,0,none⟩)),(1,.slice af fr.length cf),(2,.slice at_ to_.length ct),(6,.pointer (some ⟨b6,0,none⟩)),(8,.pointer (some ⟨b8,0,none⟩)),(9,.slice a l.length c),(11,.int .i64 (y.1.2.2:Int)),(16,.int .i64 ((y.1.1:Int)-1))],(b8,cel 267 (Za y.1.2.1))::(b6,cel 267 (Za (List.replicate 10 0)))::H,RowsA a 1 (irows (l.map fun x:Nat×Nat=>(x.1:Int)))::R⟩) (fun y=>y.1.1) ⟨(l.length,fl,w),Nat.le_refl _,hfl,fun j=>by rw [List.drop_length];simp [Z3v],fun _=>hwk.way.last hl0⟩ ?_ (fun y=>?_)
 exact Zj (fun w h=>h.del m)
 obtain ⟨⟨k1,f2,at2⟩,hk1,h2l,h2a,h2t⟩:=y
 dsimp only at hk1 h2l h2a h2t ⊢
 refine Z0 (sqt 2 rfl (pur 2 rfl ?_))
 refine Z2 rfl ?_ ?_<;>intro hc3<;>try simp only [cS] at hc3
 obtain ⟨k,rfl⟩:∃ k,k1=k+1:=⟨k1-1,by omega⟩
 obtain ⟨gi,hgi⟩:=h2t (by omega)
 rw [show k+1-1=k by omega] at hgi
 obtain ⟨g,y,hgg,hend,_,hprev⟩:=hwk.way.at_ hgi
 dsimp only at hgg hend
 have hgo2:=hok.gaps g (List.mem_of_getElem? hgg)
 have hgil:=(List.getElem?_eq_some_iff.1 hgg).1
 have hpk:(l.map fun x:Nat×Nat=>(x.1:Int))[k]?=some (gi:Int):=by rw [List.getElem?_map,hgi];rfl
 have hdr:l.drop k=(gi,at2)::l.drop (k+1):=by rw [List.drop_eq_getElem_cons (List.getElem?_eq_some_iff.1 hgi).1,(List.getElem?_eq_some_iff.1 hgi).2]
 have hnin:∀ x∈l.drop (k+1),x.1≠gi:=fun x hx e=>by
   have hnd:=hwk.nd
   have h8:(l.drop k).map (·.1)=gi::(l.drop (k+1)).map (·.1):=by rw [hdr];rfl
   have h9:((l.drop k).map (·.1)).Nodup:=by rw [List.map_drop];exact hnd.sublist (List.drop_sublist _ _)
   rw [h8,List.nodup_cons] at h9
   exact h9.1 (List.mem_map.2 ⟨x,hx,e⟩)
 have hbd:=Zep d.h.gaps (na fl) (l.drop (k+1)) gi
 have hone:=hfw.one gi
 have hgv:=h2a gi
 rw [show ((k+1:Nat):Int)-1=((k:Nat):Int) from by omega]
 refine Zi (a:=a) (sz:=1) (rows:=irows (l.map fun x:Nat×Nat=>(x.1:Int))) (by intro h0;have:=congrArg List.length h0;rw [irl,List.length_map] at this;simp only [List.length_nil] at this;omega) (fun ba oa hea=>?_)
 subst hea
 refine Zi (a:=d.ag) (sz:=2) (rows:=grows d.h.gaps) (by intro h0;have:=congrArg List.length h0;rw [Z48] at this;simp only [List.length_nil] at this;have:=(List.getElem?_eq_some_iff.1 hgg).1;omega) (fun bq og he=>?_)
 have hG9:=hG.mem
 rw [he] at hG9
 haveI:=MemRows.mk hG9
 refine Z1 (Z0 (Z3 (Z0 ?_)))
 refine Zb [0,1,3,7,15,0,0,96,224,511,1023,0,4095] (tks 0 4 (.ld 4 (tks 5 3 (.ld 8 (.tk 9 (.ld 10 (.big 11 (.big 12 .done)))))))) Zo (by kernel_rfl) ?_
 refine Zl 1 rfl (tk rfl (PE.nilCheck rfl) rfl (tk rfl (PE.fA Z1y rfl) rfl (tk rfl (PE.fA Z1A rfl) rfl (ld rfl rfl (lfB (sz:=4) (x:=.slice (some ⟨bq,og,none⟩) d.h.gaps.length d.cg) Z9v (by show some (d.h.sg d.ag d.cg)=_;unfold Hse.sg;rw [he])) rfl (Zl 2 rfl (tk rfl (PE.indexAddr Z1q rfl rfl (by omega) (by omega)) rfl (ld rfl rfl (lf0 sc3 (ir_get hpk) rfl) rfl (tk rfl (PE.indexAddr ZcC rfl rfl (by omega) (by omega)) rfl (ld rfl rfl (lfA Zc6 (row:=grow g) (Z2w hgg) rfl) rfl (alc rfl ZbW rfl (fun b17=>?_)))))))))))
 refine bg (fun w hs=>⟨(lfA Zc6 (row:=grow g) (Z2w hgg) rfl) w hs,(lf0 sc3 (ir_get hpk) rfl) w hs,(lfB (sz:=4) (x:=.slice (some ⟨bq,og,none⟩) d.h.gaps.length d.cg) Z9v (by show some (d.h.sg d.ag d.cg)=_;unfold Hse.sg;rw [he])) w hs,trivial⟩) ?_
 refine ZH (l':=grow g) rfl rfl rfl ZhN rfl rfl rfl rfl (nl rfl) ?_
 refine bgT (Z0 (sqt 4 rfl (sp rfl (PE.fA Z0T rfl) rfl (spL rfl rfl (lh sc3 rfl rfl) rfl (pur 2 rfl ?_)))))
 refine Z2 rfl ?_ ?_<;>intro hc4<;>try simp only [cS] at hc4
 have hstp:Z9w d.h.gaps gi at2=1:=by unfold Z9w;rw [hgg];dsimp only;rw [dT (show g.b.toNat=at2 by omega)];rfl
 refine sqr 9 rfl (pur 2 rfl (sp rfl (PE.indexAddr Z1q rfl rfl (by omega) (by omega)) rfl (spL rfl rfl (lf0 sc3 (ir_get hpk) rfl) rfl (sp rfl (PE.indexArr Z8Y rfl rfl (by omega) (by omega)) rfl (spL rfl rfl (lh sc3 rfl (Z8r (w:=f2) (k:=gi) (by omega) (by show 0+((gi:Nat):Int).toNat*1=gi;omega))) rfl (sp rfl (PE.add rfl rfl (by omega)) rfl (sp rfl (PE.indexArr Z8Y rfl rfl (by omega) (by omega)) rfl ?_)))))))
 refine ZH (l':=Za (f2.set gi (na f2 gi+1))) rfl rfl rfl cn3 rfl rfl rfl (ZbA (by omega) (by show 0+((gi:Nat):Int).toNat*1=gi;omega)) (by rw [Z6,h2l];show 0+((gi:Nat):Int).toNat*1+1≤10;omega) ?_
 refine sqr 8 rfl (sp rfl (PE.fA Z0S rfl) rfl (spL rfl rfl (lh sc3 rfl rfl) rfl (sp rfl (PE.fA Z0T rfl) rfl (spL rfl rfl (lh sc3 rfl rfl) rfl (sp rfl (PE.add rfl rfl (by omega)) rfl (pur 1 rfl (sp rfl (PE.sub rfl rfl (by omega)) rfl ?_)))))))
 rw [show g.a+g.b-(at2:Int)=((y:Nat):Int) from by omega]
 refine pur 1 rfl (sqr 3 rfl (pur 1 rfl (sp rfl (PE.sub rfl rfl (by omega)) rfl (pur 1 rfl ?_))))
 have hst:∀ j,na (f2.set gi (na f2 gi+1)) j=Z3v d.h.gaps (na fl) (l.drop k) j:=fun j=>by
   rw [hdr,Z3J hnin,Z12 (by omega),h2a j]
   by_cases e:gi=j
   · subst e;rw [decide_eq_true rfl];simp only [cond_true,hstp];omega
   · rw [decide_eq_false e,dF (fun e2=>e e2.symm)];simp
 have h2l2:(f2.set gi (na f2 gi+1)).length=10:=by rw [List.length_set];exact h2l
 exact Zx ⟨(k,f2.set gi (na f2 gi+1),y),by dsimp only;omega,h2l2,hst,fun h0=>by
   obtain ⟨z,h5,h6⟩:=hprev (k-1) (by dsimp only at h0;omega)
   exact ⟨z.1,by dsimp only;rw [h5,← h6]⟩⟩ (by dsimp only;omega) sbA (fun w h=>h.del b17)
 have hstp:Z9w d.h.gaps gi at2 = -1:=by unfold Z9w;rw [hgg];dsimp only;rw [dF (show ¬ g.b.toNat=at2 by omega)];rfl
 refine sqr 9 rfl (pur 2 rfl (sp rfl (PE.indexAddr Z1q rfl rfl (by omega) (by omega)) rfl (spL rfl rfl (lf0 sc3 (ir_get hpk) rfl) rfl (sp rfl (PE.indexArr Z8Y rfl rfl (by omega) (by omega)) rfl (spL rfl rfl (lh sc3 rfl (Z8r (w:=f2) (k:=gi) (by omega) (by show 0+((gi:Nat):Int).toNat*1=gi;omega))) rfl (sp rfl (PE.sub rfl rfl (by omega)) rfl (sp rfl (PE.indexArr Z8Y rfl rfl (by omega) (by omega)) rfl ?_)))))))
 refine ZH (l':=Za (f2.set gi (na f2 gi-1))) rfl rfl rfl cn3 rfl rfl rfl (ZbA (by omega) (by show 0+((gi:Nat):Int).toNat*1=gi;omega)) (by rw [Z6,h2l];show 0+((gi:Nat):Int).toNat*1+1≤10;omega) ?_
 refine sqr 8 rfl (sp rfl (PE.fA Z0S rfl) rfl (spL rfl rfl (lh sc3 rfl rfl) rfl (sp rfl (PE.fA Z0T rfl) rfl (spL rfl rfl (lh sc3 rfl rfl) rfl (sp rfl (PE.add rfl rfl (by omega)) rfl (pur 1 rfl (sp rfl (PE.sub rfl rfl (by omega)) rfl ?_)))))))
 rw [show g.a+g.b-(at2:Int)=((y:Nat):Int) from by omega]
 refine pur 1 rfl (sqr 3 rfl (pur 1 rfl (sp rfl (PE.sub rfl rfl (by omega)) rfl (pur 1 rfl ?_))))
 have hst:∀ j,na (f2.set gi (na f2 gi-1)) j=Z3v d.h.gaps (na fl) (l.drop k) j:=fun j=>by
   rw [hdr,Z3J hnin,Z12 (by omega),h2a j]
   by_cases e:gi=j
   · subst e;rw [decide_eq_true rfl];simp only [cond_true,hstp];omega
   · rw [decide_eq_false e,dF (fun e2=>e e2.symm)];simp
 have h2l2:(f2.set gi (na f2 gi-1)).length=10:=by rw [List.length_set];exact h2l
 exact Zx ⟨(k,f2.set gi (na f2 gi-1),y),by dsimp only;omega,h2l2,hst,fun h0=>by
   obtain ⟨z,h5,h6⟩:=hprev (k-1) (by dsimp only at h0;omega)
   exact ⟨z.1,by dsimp only;rw [h5,← h6]⟩⟩ (by dsimp only;omega) sbA (fun w h=>h.del b17)
 obtain rfl:k1=0:=by omega
 have hfe:na f2=Z3v d.h.gaps (na fl) l:=by funext j;rw [h2a j,List.drop_zero]
 have hfm:=hfw.more hns hab hwk
 rw [← hfe] at hfm
 have hft2:=Z8j hfm.1 (msk fr)
 refine Z7 (Z9 (Z9 (Zk ?_)))
 exact Zf ⟨f2,h2l,hfm.1,by rw [hfm.2];omega⟩ (by dsimp only;rw [hfm.2];omega) (fun w h=>h.ftail)
set_option maxHeartbeats 1000000 in
theorem Zgs (d:Dk) (hd:d.Ok) (fr to_:List Int) (af at_:Option Addr) (cf ct:Nat) (hfr:∀ x∈fr,0≤x∧x<7) (hto:∀ x∈to_,0≤x∧x<7) (hnf:fr.Nodup) (hnt:to_.length≤1000000) (hdis:∀ x∈fr,x∉to_) (H:Z8) (R:Z5) [hD:MemRows (some ⟨d.bd,0,none⟩) 4 [d.row] R] [hG:MemRows d.ag 2 (grows d.h.gaps) R] [hS:MemRows d.as_ 3 (srows d.h.sights) R] [sR:SubF d.R0 R] [hF:MemRows af 1 (irows fr) R] [hT:MemRows at_ 1 (irows to_) R] :
    Fn Tryz.prog 79 [.pointer (some ⟨d.bd,0,none⟩),.slice af fr.length cf,.slice at_ to_.length ct] H R (fun v H' R'=>∃ (fl:List Int) (V:List (Nat×Int)) (a:Option Addr) (c:Nat),fl.length=10∧Flw (na fl) (msk fr) (msk to_) d.h.gaps∧Shn d.h.gaps (fun i=>!d.cl.testBit i) (na fl) (msk fr) (msk to_) V∧v = .slice a (ZeZ d.h.gaps d.cl (Z22 V)).length c∧(ZeZ d.h.gaps d.cl (Z22 V)).length≤c∧H'=H∧R'=RowsA a 1 (irows (ZeZ d.h.gaps d.cl (Z22 V)))::R):=by
 refine Ze Tryz.func79 rfl Tryz.ntmps79 rfl ?_
 refine sqt 1 rfl (pur 1 rfl (sqt 10 rfl (pur 3 rfl ?_)))
 refine cl rfl ZgK rfl rfl (Zgv d hd fr to_ af at_ cf ct hfr hto hnf hnt hdis _ _) ?_
 rintro _ _ R1 ⟨fl,V,m,rfl,rfl,hR1,hfl,hfw,hsh⟩
 obtain rfl:=hR1.symm
 clear hR1
 refine pur 3 rfl (alc rfl Zg1 rfl (fun b7=>?_))
 refine Z4z rfl rfl rfl ZhK rfl (by rw [Z6];exact hfl) rfl (ZA _) ?_
 refine pur 1 rfl (sqt 1 rfl (pur 1 rfl (Z0 (sqt 7 rfl (pur 1 rfl (sp rfl (PE.nilCheck rfl) rfl (sp rfl (PE.fA Z1y rfl) rfl (sp rfl (PE.fA Z1A rfl) rfl (spL rfl rfl (lfB (sz:=4) Z9v rfl) rfl (sp rfl (PE.lenSl Z98 rfl) rfl (pur 1 rfl (Z3 ?_))))))))))))
 have hok:=hd.ok
 have hgl:=hok.gl
 refine Zd (ι:=(k:{k:Nat // k≤d.h.gaps.length})×OSl 3 1 (irows (Z9s (Zcx d.h.gaps d.cl (Z22 V)) k.1))) (fun y=>⟨[(0,.pointer (some ⟨d.bd,0,none⟩)),(8,.map (some m)),(9,y.2.fs),(27,d.h.sg d.ag d.cg),(28,.int .i64 d.h.gaps.length),(29,.int .i64 y.1.1)],y.2.G++((m,Zz false (vkv V))::H),R⟩) (fun y=>d.h.gaps.length-y.1.1) ⟨⟨0,Nat.zero_le _⟩,OSl.nil _ _⟩ ?_ (fun y=>?_)
 exact Zj (fun w h=>h.del b7)
 obtain ⟨⟨k,hk⟩,o⟩:=y
 dsimp only at hk o ⊢
 have hcn:=ZcE (Zcx d.h.gaps d.cl (Z22 V)) k
 refine sqt 1 rfl (pur 1 rfl (Z0 ?_))
 refine Z2 rfl ?_ ?_<;>intro hc0<;>try simp only [cS] at hc0
 obtain ⟨g,hgg⟩:∃ g,d.h.gaps[k]?=some g:=⟨_,List.getElem?_eq_getElem (by omega)⟩
 have hgo2:=hok.gaps g (List.mem_of_getElem? hgg)
 obtain ⟨xa,hxa⟩:∃ n:Nat,g.a=n:=⟨g.a.toNat,by omega⟩
 obtain ⟨xb,hxb⟩:∃ n:Nat,g.b=n:=⟨g.b.toNat,by omega⟩
 obtain ⟨goa,hga⟩:∃ go,(vkv V).get [(xa:Int)]=go:=⟨_,rfl⟩
 obtain ⟨gob,hgb⟩:∃ go,(vkv V).get [(xb:Int)]=go:=⟨_,rfl⟩
 have hma:=ZaZ hsh.s xa
 have hmb:=ZaZ hsh.s xb
 rw [hga] at hma
 rw [hgb] at hmb
 have hcrs:crs (Z22 V) g=(goa.isSome != gob.isSome):=by unfold crs;rw [show g.a.toNat=xa by omega,show g.b.toNat=xb by omega,hma,hmb]
 have hcB:Zcx d.h.gaps d.cl (Z22 V) k=((goa.isSome != gob.isSome)&&!d.cl.testBit k):=by unfold Zcx;rw [hgg];dsimp only;rw [hcrs]
 refine Zi (a:=d.ag) (sz:=2) (rows:=grows d.h.gaps) (by intro h0;have:=congrArg List.length h0;rw [Z48] at this;simp only [List.length_nil] at this;have:=(List.getElem?_eq_some_iff.1 hgg).1;omega) (fun bq og he=>?_)
 have hG9:=hG.mem
 rw [he] at hG9
 haveI:=MemRows.mk hG9
 rw [show d.h.sg d.ag d.cg = .slice (some ⟨bq,og,none⟩) d.h.gaps.length d.cg by unfold Hse.sg;rw [he]]
 refine Z1 (Z0 (Z3 (sqt 6 rfl (pur 1 rfl (sp rfl (PE.indexAddr ZcC rfl rfl (by omega) (by omega)) rfl (spL rfl rfl (lfA Zc6 (row:=grow g) (Z2w hgg) rfl) rfl (alc rfl ZbW rfl (fun b11=>pur 1 rfl ?_))))))))
 refine ZH (l':=grow g) rfl rfl rfl ZhN rfl rfl rfl rfl (nl rfl) ?_
 refine sqt 9 rfl (pur 1 rfl (sp rfl (PE.fA Z0S rfl) rfl (spL rfl rfl (lh sc3 rfl rfl) rfl ?_)))
 rw [hxa]
 refine spK rfl rfl rfl (Z0L (b:=false) (vkv V) [(xa:Int)] Z4f (KeyT.of Z6o Z6H) (ZZ zv3) rfl Z1N true) rfl ?_
 rw [hga]
 refine pur 5 rfl (sqt 9 rfl (pur 1 rfl (sp rfl (PE.fA Z0T rfl) rfl (spL rfl rfl (lh sc3 rfl rfl) rfl ?_))))
 rw [hxb]
 refine spK rfl rfl rfl (Z0L (b:=false) (vkv V) [(xb:Int)] Z4f (KeyT.of Z6o Z6H) (ZZ zv3) rfl Z1N true) rfl ?_
 rw [hgb]
 refine pur 5 rfl (sqt 11 rfl (pur 2 rfl (sp rfl (PE.neqBool ub4 rfl rfl) rfl (pur 1 rfl ?_))))
 refine Zv 51 rfl ?_ ?_<;>intro g51
 refine pur 1 rfl ?_
 refine spG rfl rfl rfl rfl (PE.nilCheck rfl) rfl ?_
 refine spG rfl rfl rfl rfl (PE.fA ZaA rfl) rfl ?_
 refine Z0E rfl rfl rfl rfl rfl (lfB (sz:=4) Z4C rfl) rfl (pur 1 rfl ?_)
 refine ZhG rfl rfl rfl rfl rfl (hd.cal) rfl rfl (hd.op k _ _ (by omega) (fun g hg=>sR.sub g hg)) ?_
 refine pur 1 rfl ?_
 refine Z2 rfl ?_ ?_<;>intro hc1
 have hb2:Zcx d.h.gaps d.cl (Z22 V) k=true:=by rw [hcB];simp_all
 refine sqr 5 rfl (pur 2 rfl ?_)
 refine bsl (out:=[_]) rfl Z18 zl3 rfl rfl rfl rfl rfl rfl (fun b61=>?_)
 refine apO (o) rfl Z62 rfl rfl (Z0B (row:=[.int .i64 k]) rfl) rfl rfl ((by rw [irl];simp only [List.length_singleton];omega)) rfl (fun o62=>?_)
 refine pur 1 rfl (sqr 2 rfl (sp rfl (PE.add rfl rfl (by omega)) rfl (pur 1 rfl ?_)))
 exact Zc ⟨⟨k+1,by omega⟩,o62.cast (by rw [Zfc hb2];simp [irows])⟩ (fun w h9=>(h9.del b61).del b11)
 have hb2:Zcx d.h.gaps d.cl (Z22 V) k=false:=by rw [hcB];simp_all
 refine Z1 (sqr 2 rfl (sp rfl (PE.add rfl rfl (by omega)) rfl (pur 1 rfl ?_)))
 exact Zc ⟨⟨k+1,by omega⟩,o.cast (by rw [Z8g hb2])⟩ (fun w h9=>h9.del b11)
 have hb2:Zcx d.h.gaps d.cl (Z22 V) k=false:=by rw [hcB];simp_all
 refine pur 7 rfl ?_
 refine Zq rfl ?_
 refine Z1 (sqr 2 rfl (sp rfl (PE.add rfl rfl (by omega)) rfl (pur 1 rfl ?_)))
 exact Zc ⟨⟨k+1,by omega⟩,o.cast (by rw [Z8g hb2])⟩ (fun w h9=>h9.del b11)
 obtain rfl:k=d.h.gaps.length:=by omega
 obtain ⟨ac,cc,he,hcc,hf⟩:=o.freezeC
 rw [irl] at hcc
 rw [he,irl]
 refine Sy.heap (fun w h9=>hf h9) ?_
 refine Z7 (Z9 (Z9 (Zk (sqt 2 rfl (pur 2 rfl (Z4 ?_))))))
 exact rtA rfl rfl rfl ⟨fl,V,ac,cc,hfl,hfw,hsh,rfl,hcc,rfl,rfl⟩ (fun w h=>h.del m)
theorem Zhx:cal Tryz.prog 78=true:=by kernel_rfl
theorem Zhy:cal Tryz.prog 79=true:=by kernel_rfl
theorem Z7i:ZY Tryz.prog 322 0=some 0:=by kernel_rfl
theorem ZV:ZY Tryz.prog 324 0=some 0:=by kernel_rfl
theorem Z33:ZY Tryz.prog 324 1=some 1:=by kernel_rfl
theorem ZdL (h:Hse) (ag as_:Option Addr) (cg cs:Nat) (bd:Nat):(fun i=>!(dkA h ag as_ cg cs bd).cl.testBit i)=fun _=>true:=by
 funext i
 show (!(Nat.testBit 0 i))=true
 rw [Nat.zero_testBit];rfl
theorem Z2o {h:Hse} {l k:List Int} (hb:h.Bot l k):(∀ x∈l,0≤x∧x<7)∧(∀ x∈k,0≤x∧x<7)∧l.Nodup∧k.Nodup∧l.length≤7∧k.length≤7:=by
 have hbn:=hb.ok.bins
 have h1:=Z4S hb.el
 have h2:=Z4S hb.ek
 have key:∀ m:List Int,(∀ x∈m,0≤x∧x<7)→m.Nodup→m.length≤7:=fun m hm hn=>by
   have h3:=(ZaI (fun x hx=>(hm x hx).1) hn).length_le_of_subset (l₂:=List.range 7) fun v hv=>by
     obtain ⟨x,hx,rfl⟩:=List.mem_map.1 hv
     have:=hm x hx
     exact List.mem_range.2 (by omega)
   simpa using h3
 have q1:∀ x∈l,0≤x∧x<7:=fun x hx=>by have:=h1.1 x hx;omega
 have q2:∀ x∈k,0≤x∧x<7:=fun x hx=>by have:=h2.1 x hx;omega
 exact ⟨q1,q2,h1.2,h2.2,key l q1 h1.2,key k q2 h2.2⟩
def ZkD (h:Hse) (fr to_:List Int) (H:Z8) (R:Z5):Value→Z8→Z5→Prop:=fun v H' R'=>H'=H∧((h.botE fr to_≠0∧v = .tuple #[.slice none 0 0,.int .i64 (h.botE fr to_)]∧R'=R) ∨
 (h.botE fr to_=0∧∃ (f:Nat→Int) (V:List (Nat×Int)) (a:Option Addr) (c:Nat),Flw f (msk fr) (msk to_) h.gaps∧Shn h.gaps (fun _=>true) f (msk fr) (msk to_) V∧(cutM (Z22 V) h.gaps).length≤c∧v = .tuple #[.slice a (cutM (Z22 V) h.gaps).length c,.int .i64 0]∧R'=RowsA a 1 (irows (cutM (Z22 V) h.gaps))::R))
theorem ZcT (l:List Int) (k:Int):msk (l++[k])=msk l|||2 ^ k.toNat:=by unfold msk;rw [List.foldl_append];rfl
theorem Z1Q (m k:Nat):decide (((((m>>>k)&&&1:Nat)):Int)=0)=!m.testBit k:=by
 rw [← Z0k]
 have h:(m>>>k)&&&1<2:=by rw [Nat.and_one_is_mod];exact Nat.mod_lt _ (by decide)
 rcases (show (m>>>k)&&&1=0∨(m>>>k)&&&1=1 by omega) with h1 | h1<;>rw [h1]<;>rfl
theorem Z9F (m k:Nat):decide (((((m>>>k)&&&1:Nat)):Int)=1)=decide (m / 2 ^ k%2=1):=by
 rw [Nat.and_one_is_mod,Nat.shiftRight_eq_div_pow];exact decide_eq_decide.2 (by omega)
theorem Z6T (cl m:Nat) (g:Gp):∀ (gs:List Gp) (i acc:Nat),ZbE cl m (gs++[g]) i acc=bif cl.testBit (i+gs.length) then ZbE cl m gs i acc else ZbE cl m gs i acc|||gpo m g
 | [],i,acc=>by simp [ZbE]
 | x::gs,i,acc=>by
   rw [List.cons_append]
   unfold ZbE
   rw [Z6T cl m g gs,List.length_cons,show i+1+gs.length=i+(gs.length+1) by omega]
def Z4r (gs:List Gp) (cl m k:Nat):Nat:=ZbE cl m (gs.take k) 0 m
theorem Z8O (gs:List Gp) (cl m:Nat):Z4r gs cl m gs.length=spr gs cl m:=by unfold Z4r spr;rw [List.take_length]
theorem Z1J {gs:List Gp} {cl m k:Nat} {g:Gp} (h:gs[k]?=some g):Z4r gs cl m (k+1)=bif cl.testBit k then Z4r gs cl m k else Z4r gs cl m k|||gpo m g:=by
 unfold Z4r
 have hk:=(List.getElem?_eq_some_iff.1 h).1
 rw [List.take_add_one,h,Option.toList_some,Z6T,List.length_take,Nat.zero_add,show min k gs.length=k by omega]
theorem ZbF {gs:List Gp} (hw:Wth gs 7) {cl m:Nat} (hm:m<2 ^ 7) (k:Nat):Z4r gs cl m k<2 ^ 7:=Z0a fun v hv=>by
 unfold Z4r at hv
 rcases (Z2P _ _ _).1 hv with h | ⟨j,g,h1,_,h3⟩
 · exact Z1s hm h
 · have hg:=hw g (List.mem_of_mem_take (List.mem_of_getElem? h1))
   rcases gpo_test.1 h3 with ⟨_,h5⟩ | ⟨_,h5⟩<;>omega
theorem Z8o {m xa xb:Nat} {g:Gp} (ha:g.a=xa) (hb:g.b=xb):gpo m g=(bif m.testBit xa then 2 ^ xb else 0)|||(bif m.testBit xb then 2 ^ xa else 0):=by
 unfold gpo;rw [ha,hb];rfl
theorem ZiC {gs:List Gp} {m c k:Nat} {g:Gp} {xa xb:Nat} (h:gs[k]?=some g) (ha:g.a=xa) (hb:g.b=xb):usf gs m c k=(!c.testBit k&&!(m.testBit xa&&m.testBit xb)):=by
 unfold usf;rw [h];dsimp only;rw [ha,hb];rfl
theorem Z3B (p:Nat→Bool) (n:Nat):msF p (n+1)=msF p n|||(bif p n then 2 ^ n else 0):=rfl
theorem Zid (p:Nat→Bool) (n:Nat):msF p n<2 ^ n:=Z0a fun v hv=>by
 rw [Z5z,Bool.and_eq_true,decide_eq_true_eq] at hv;exact hv.1
theorem Z7v {j n:Nat} (h:j<n) (hn:n≤10):1*2 ^ j≤1024∧1*2 ^ j<2 ^ 62:=by
 have:2 ^ j≤2 ^ 10:=Nat.pow_le_pow_right (by decide) (by omega)
 have e:(2:Nat) ^ 10=1024:=rfl
 have e2:(1024:Nat)<2 ^ 62:=by decide
 omega
structure Rc where
 d:Dk
 br:Nat
 K:Nat
 sp:Nat
 mm:Nat
def Rc.row (r:Rc):List Value:=[.pointer (some ⟨r.d.bd,0,none⟩),.int .i64 (r.K:Int),.int .i64 (r.sp:Int),.map (some r.mm)]
def plc (m c:Nat):List Value:=[.int .i64 (m:Int),.int .i64 (c:Int)]
set_option maxHeartbeats 400000 in
theorem Zje (h:Hse) (ag as_:Option Addr) (cg cs:Nat) (hlg:h.gaps.length≤9223372036854775807) (hls:h.sights.length≤9223372036854775807) (fr to_:List Int) (af at_:Option Addr) (cf ct:Nat) (hlf:fr.length≤1000000) (hlt:to_.length≤1000000) (hfc:fr.length≤cf) (htc:to_.length≤ct) (H:Z8) (R:Z5) [hG:MemRows ag 2 (grows h.gaps) R] [hS:MemRows as_ 3 (srows h.sights) R] [hF:MemRows af 1 (irows fr) R] [hT:MemRows at_ 1 (irows to_) R] :
    Fn Tryz.prog 33 [h.v (h.sg ag cg) (h.ss as_ cs),.slice af fr.length cf,.slice at_ to_.length ct] H R (ZkD h fr to_ H R):=by
 refine Ze Tryz.func33 rfl Tryz.ntmps33 rfl ?_
 refine sqt 3 rfl (bx rfl rfl rfl (fun b3=>pur 2 rfl (Z0 (sqt 5 rfl (spL rfl rfl (lhA (htl h (h.sg ag cg) (h.ss as_ cs)) ZbY rfl rfl rfl) rfl (pur 2 rfl ?_))))))
 refine clV rfl Zhx rfl rfl (Zdm h ag as_ cg cs hlg hls fr to_ af at_ cf ct (by omega) (by omega) hfc htc _ _) ?_
 refine pur 1 rfl (sqt 2 rfl (pur 2 rfl ?_))
 refine Z2 rfl ?_ ?_<;>intro hc0
 have hbe:h.botE fr to_≠0:=of_decide_eq_true hc0
 refine sqt 3 rfl (pur 3 rfl (Z4 ?_))
 exact rtB rfl rfl rfl rfl ⟨rfl,.inl ⟨hbe,rfl,rfl⟩⟩ (fun w h9=>h9.del b3)
 have hbe:h.botE fr to_=0:=Classical.byContradiction fun e=>by rw [decide_eq_true e] at hc0;cases hc0
 have hb:=Z7U hbe
 obtain ⟨q1,q2,q3,q4,q5,q6⟩:=Z2o hb
 refine Z1 (sqt 7 rfl (spL rfl rfl (lhA (htl h (h.sg ag cg) (h.ss as_ cs)) ZbY rfl rfl rfl) rfl ?_))
 refine cl rfl Zhw rfl rfl (Zgp h ag as_ cg cs _ _) ?_
 rintro _ _ _ ⟨bd,rfl,rfl,rfl⟩
 refine pur 2 rfl ?_
 refine cl rfl Zhy rfl rfl (Zgs (dkA h ag as_ cg cs bd) (Z4N h ag as_ cg cs hb.ok bd) fr to_ af at_ cf ct q1 q2 q3 (by omega) hb.no _ _) ?_
 rintro _ _ _ ⟨fl,V,a,c,hfl,hfw,hsh,rfl,hcc,rfl,rfl⟩
 have hop:=ZdL h ag as_ cg cs bd
 rw [hop] at hsh
 rw [show ZeZ (dkA h ag as_ cg cs bd).h.gaps (dkA h ag as_ cg cs bd).cl (Z22 V)=cutM (Z22 V) h.gaps from Z6h _ _] at hcc ⊢
 refine pur 2 rfl (Z4 ?_)
 exact rtB rfl rfl rfl rfl ⟨rfl,.inr ⟨hbe,na fl,V,a,c,hfw,hsh,hcc,rfl,rfl⟩⟩ drp
theorem Za9 (l:List Int) (hl:∀ k∈l,0≤k∧k<10) (hll:l.length≤1000000) (a:Option Addr) (c:Nat) (H:Z8) (R:Z5) [hL:MemRows a 1 (irows l) R] :
    FnV Tryz.prog 215 [.slice a l.length c] H R (.int .i64 (msk l:Nat)):=by
 refine Ze Tryz.func215 rfl Tryz.ntmps215 rfl ?_
 refine sqt 1 rfl (pur 1 rfl (sqt 1 rfl (pur 1 rfl (Z0 (sqt 3 rfl (pur 1 rfl (sp rfl (PE.lenSl ZD rfl) rfl (pur 1 rfl (Z3 ?_)))))))))
 refine Zd (ι:={k:Nat // k≤l.length}) (fun k=>⟨[(3,.int .i64 (msk (l.take k.1):Nat)),(6,.slice a l.length c),(7,.int .i64 l.length),(8,.int .i64 k.1)],H,R⟩) (fun k=>l.length-k.1) ⟨0,Nat.zero_le _⟩ ?_ (fun k=>?_)
 exact Zj idH
 obtain ⟨k,hk⟩:=k
 dsimp only at hk ⊢
 refine sqt 1 rfl (pur 1 rfl (Z0 ?_))
 refine Z2 rfl ?_ ?_<;>intro hc0<;>try simp only [cS] at hc0
 obtain ⟨x,hx⟩:∃ x,l[k]?=some x:=⟨_,List.getElem?_eq_getElem (by omega)⟩
 have hx10:=hl x (List.mem_of_getElem? hx)
 obtain ⟨j,rfl⟩:∃ j:Nat,x=j:=⟨x.toNat,by omega⟩
 have hlt:msk (l.take k)<2 ^ 10:=Z3n (n:=10) fun i hi=>by have:=hl i (List.mem_of_mem_take hi);omega
 have hp:=Z7v (show j<10 by omega) (Nat.le_refl _)
 have hst:msk (l.take (k+1))=msk (l.take k)|||(1*2 ^ j):=by rw [List.take_add_one,hx,Option.toList_some,ZcT,Nat.one_mul];rfl
 refine Zi (a:=a) (sz:=1) (rows:=irows l) (ne0 (by rw [irl];omega)) (fun ba oa he=>?_)
 subst he
 refine Z1 (Z0 (Z3 (sqt 3 rfl (sp rfl (PE.indexAddr Z1q rfl rfl (by omega) (by omega)) rfl (spL rfl rfl (lf0 sc3 (ir_get hx) rfl) rfl (pur 1 rfl (sqr 5 rfl (pur 2 rfl (sp rfl (PE.shlN (m:=1) (n:=j) rfl rfl rfl (by omega) (by omega)) rfl (sp rfl (PE.orN (m:=msk (l.take k)) (n:=1*2 ^ j) rfl rfl (Nat.lt_trans hlt (by decide)) (by omega)) rfl (pur 1 rfl (sqr 2 rfl (sp rfl (PE.add rfl rfl (by omega)) rfl (pur 1 rfl ?_))))))))))))))
 exact Zx ⟨k+1,by omega⟩ (by dsimp only;omega) (by rw [hst];exact sbA) idH
 obtain rfl:k=l.length:=by omega
 rw [List.take_length]
 refine Z7 (Z9 (Z9 (Zk (sqt 2 rfl (pur 2 rfl (Z4 ?_))))))
 exact rtA rfl rfl rfl ⟨rfl,rfl,rfl⟩ idH
theorem Z7X (s:Nat) (hs:s<2 ^ 10) (H:Z8) (R:Z5) :
    Fn Tryz.prog 217 [.int .i64 s] H R (fun v H' R'=>∃ o:OSl 3 1 (irows (Z2E s)),v=o.fs∧H'=o.G++H∧R'=R):=by
 refine Ze Tryz.func217 rfl Tryz.ntmps217 rfl ?_
 refine sqt 1 rfl (pur 1 rfl (sqt 1 rfl (pur 1 rfl (Z0 (sqt 1 rfl (pur 1 rfl (Z3 ?_)))))))
 refine Zd (ι:=(k:{k:Nat // k≤10})×OSl 3 1 (irows (Z9t s k.1))) (fun x=>⟨[(0,.int .i64 s),(3,x.2.fs),(4,.int .i64 x.1.1)],x.2.G++H,R⟩) (fun x=>10-x.1.1) ⟨⟨0,by omega⟩,OSl.nil _ _⟩ ?_ (fun x=>?_)
 exact Zj idH
 obtain ⟨⟨k,hk⟩,o⟩:=x
 dsimp only at hk o ⊢
 have hml:=ZcQ s k
 refine Z0 (sqt 4 rfl (pur 2 rfl (sp rfl (PE.shrN (m:=s) (n:=k) rfl rfl (by omega)) rfl (pur 1 rfl ?_))))
 refine Z2 rfl ?_ ?_<;>intro hc0<;>try simp only [cS] at hc0
 have hk4:k<10:=by
   rcases Nat.lt_or_ge k 10 with h1 | h1
   · exact h1
   · obtain rfl:k=10:=by omega
     have:s>>>10=0:=by rw [Nat.shiftRight_eq_div_pow];exact Nat.div_eq_of_lt hs
     omega
 refine Z1 (Z0 (Z3 (sqt 5 rfl (pur 2 rfl (sp rfl (PE.shrN (m:=s) (n:=k) rfl rfl (by omega)) rfl (sp rfl (PE.andN (m:=s>>>k) (n:=1) rfl rfl rfl (Nat.le_trans (Nat.shiftRight_le _ _) (by omega)) (by decide)) rfl (pur 1 rfl ?_)))))))
 refine Z2 rfl ?_ ?_<;>intro hc1
 rw [Z9F] at hc1
 have eb:=Zfx (of_decide_eq_true hc1)
 refine sqr 5 rfl (pur 2 rfl ?_)
 refine bsl (out:=[_]) rfl Z18 zl3 rfl rfl rfl rfl rfl rfl (fun b18=>?_)
 refine apO (o) rfl Z62 rfl rfl (Z0B (row:=[.int .i64 k]) rfl) rfl rfl ((by rw [irl];simp only [List.length_singleton];omega)) rfl (fun o19=>?_)
 refine pur 1 rfl (sqr 3 rfl (pur 1 rfl (sp rfl (PE.add rfl rfl (by omega)) rfl (pur 1 rfl ?_))))
 first
   | exact Zf ⟨⟨k+1,by omega⟩,o19.cast (by rw [eb];simp [irows])⟩ (by dsimp only;omega) (fun w h=>h.del b18)
   | exact Zf ⟨⟨k+1,by omega⟩,o.cast (by rw [eb])⟩ (by dsimp only;omega) idH
 rw [Z9F] at hc1
 have eb:=Z8C (of_decide_eq_false hc1)
 refine Z1 (sqr 3 rfl (pur 1 rfl (sp rfl (PE.add rfl rfl (by omega)) rfl (pur 1 rfl ?_))))
 first
   | exact Zf ⟨⟨k+1,by omega⟩,o19.cast (by rw [eb];simp [irows])⟩ (by dsimp only;omega) (fun w h=>h.del b18)
   | exact Zf ⟨⟨k+1,by omega⟩,o.cast (by rw [eb])⟩ (by dsimp only;omega) idH
 have hz:s / 2 ^ k=0:=by
   have h5:s>>>k=0:=Nat.le_zero.1 (Int.ofNat_le.1 hc0)
   rw [Nat.shiftRight_eq_div_pow] at h5;exact h5
 refine Z7 (Z9 (Z9 (Zk (sqt 2 rfl (pur 2 rfl (Z4 ?_))))))
 exact rtA rfl rfl rfl ⟨o.cast (by rw [Zfv hz (by omega)]),rfl,rfl,rfl⟩ idH
set_option maxHeartbeats 600000 in
theorem Z3w (r:Rc) (hd:r.d.Ok) (m c:Nat) (hm:m<2 ^ 7) (hc:c<2 ^ 10) (H:Z8) (R:Z5) [hD:MemRows (some ⟨r.d.bd,0,none⟩) 4 [r.d.row] R] [hG:MemRows r.d.ag 2 (grows r.d.h.gaps) R] [hS:MemRows r.d.as_ 3 (srows r.d.h.sights) R] [sR:SubF r.d.R0 R] [hX:MemRows (some ⟨r.br,0,none⟩) 4 [r.row] R] :
    FnV Tryz.prog 218 [.pointer (some ⟨r.br,0,none⟩),.agg (plc m c).toArray] H R (.int .i64 (spr r.d.h.gaps c m:Nat)):=by
 refine Ze Tryz.func218 rfl Tryz.ntmps218 rfl ?_
 refine sqt 2 rfl (bx rfl rfl rfl (fun b3=>pur 1 rfl (sqt 3 rfl (sp rfl (PE.fA ZV rfl) rfl (spL rfl rfl (lh sc3 rfl rfl) rfl (pur 1 rfl (Z0 (sqt 10 rfl (pur 1 rfl (sp rfl (PE.nilCheck rfl) rfl (sp rfl (PE.fA Z7i rfl) rfl (spL rfl rfl (lfB (sz:=4) Z5H rfl) rfl (sp rfl (PE.nilCheck rfl) rfl (sp rfl (PE.fA Z1y rfl) rfl (sp rfl (PE.fA Z1A rfl) rfl ?_)))))))))))))))
 refine spL rfl rfl (lfB (sz:=4) Z9v rfl) rfl (sp rfl (PE.lenSl Z98 rfl) rfl (pur 1 rfl (Z3 ?_)))
 have hok:=hd.ok
 have hgl:=hok.gl
 have hbn:=hok.bins
 have hm9:m≤1000000:=by have:(2:Nat) ^ 7=128:=rfl;omega
 have hc9:c≤1000000:=by have:(2:Nat) ^ 10=1024:=rfl;omega
 have hw7:Wth r.d.h.gaps 7:=fun g hg=>by have:=hok.gaps g hg;omega
 refine Zd (ι:={k:Nat // k≤r.d.h.gaps.length}) (fun k=>⟨[(3,.pointer (some ⟨b3,0,none⟩)),(5,.int .i64 (Z4r r.d.h.gaps c m k.1:Nat)),(17,r.d.h.sg r.d.ag r.d.cg),(18,.int .i64 r.d.h.gaps.length),(19,.int .i64 k.1)],(b3,cel 324 (plc m c))::H,R⟩) (fun k=>r.d.h.gaps.length-k.1) ⟨0,Nat.zero_le _⟩ ?_ (fun k=>?_)
 exact Zj idH
 obtain ⟨k,hk⟩:=k
 dsimp only at hk ⊢
 have hlt:=ZbF hw7 (cl:=c) hm k
 refine sqt 1 rfl (pur 1 rfl (Z0 ?_))
 refine Z2 rfl ?_ ?_<;>intro hc0<;>try simp only [cS] at hc0
 obtain ⟨g,hgg⟩:∃ g,r.d.h.gaps[k]?=some g:=⟨_,List.getElem?_eq_getElem (by omega)⟩
 have hgo2:=hok.gaps g (List.mem_of_getElem? hgg)
 obtain ⟨xa,hxa⟩:∃ n:Nat,g.a=n:=⟨g.a.toNat,by omega⟩
 obtain ⟨xb,hxb⟩:∃ n:Nat,g.b=n:=⟨g.b.toNat,by omega⟩
 have hp1:=Z7v (show xa<10 by omega) (Nat.le_refl _)
 have hp2:=Z7v (show xb<10 by omega) (Nat.le_refl _)
 have hp3:=Z7v (show k<10 by omega) (Nat.le_refl _)
 refine Zi (a:=r.d.ag) (sz:=2) (rows:=grows r.d.h.gaps) (by intro h0;have:=congrArg List.length h0;rw [Z48] at this;simp only [List.length_nil] at this;have:=(List.getElem?_eq_some_iff.1 hgg).1;omega) (fun bq og he=>?_)
 have hG9:=hG.mem
 rw [he] at hG9
 haveI:=MemRows.mk hG9
 rw [show r.d.h.sg r.d.ag r.d.cg = .slice (some ⟨bq,og,none⟩) r.d.h.gaps.length r.d.cg by unfold Hse.sg;rw [he]]
 refine Z1 (Z0 (Z3 (sqt 6 rfl (pur 1 rfl (sp rfl (PE.indexAddr ZcC rfl rfl (by omega) (by omega)) rfl (spL rfl rfl (lfA Zc6 (row:=grow g) (Z2w hgg) rfl) rfl (alc rfl ZbW rfl (fun b7=>pur 1 rfl ?_))))))))
 refine ZH (l':=grow g) rfl rfl rfl ZhN rfl rfl rfl rfl (nl rfl) ?_
 refine Z0 (sqt 6 rfl (sp rfl (PE.fA Z33 rfl) rfl (spL rfl rfl (lh sc3 rfl rfl) rfl (pur 1 rfl (sp rfl (PE.shrN (m:=c) (n:=k) rfl rfl (by omega)) rfl (sp rfl (PE.andN (m:=c>>>k) (n:=1) rfl rfl rfl (Nat.le_trans (Nat.shiftRight_le _ _) (by omega)) (by decide)) rfl (pur 1 rfl ?_)))))))
 refine Z2 rfl ?_ ?_<;>intro hc1
 rw [Z0k] at hc1
 refine Z7 (Z9 (Zk (sqr 2 rfl (sp rfl (PE.add rfl rfl (by omega)) rfl (pur 1 rfl ?_)))))
 have hn:Z4r r.d.h.gaps c m (k+1)=Z4r r.d.h.gaps c m k:=by rw [Z1J hgg,hc1];rfl
 exact Zx ⟨k+1,by omega⟩ (by dsimp only;omega) (by rw [hn];exact sbA) (fun w h=>h.del b7)
 rw [Z0k] at hc1
 refine Z1 (Z0 (sqt 7 rfl (sp rfl (PE.fA ZV rfl) rfl (spL rfl rfl (lh sc3 rfl rfl) rfl (sp rfl (PE.fA Z0S rfl) rfl (spL rfl rfl (lh sc3 rfl rfl) rfl ?_))))))
 rw [hxa]
 refine sp rfl (PE.shrN (m:=m) (n:=xa) rfl rfl (by omega)) rfl (sp rfl (PE.andN (m:=m>>>xa) (n:=1) rfl rfl rfl (Nat.le_trans (Nat.shiftRight_le _ _) (by omega)) (by decide)) rfl (pur 1 rfl ?_))
 refine Z2 rfl ?_ ?_<;>intro hc2
 rw [Z0k] at hc2
 have hor:Z4r r.d.h.gaps c m k|||1*2 ^ xb<2 ^ 62:=Nat.or_lt_two_pow (Nat.lt_trans hlt (by decide)) (by omega)
 refine sqr 6 rfl (pur 1 rfl (sp rfl (PE.fA Z0T rfl) rfl (spL rfl rfl (lh sc3 rfl rfl) rfl ?_)))
 rw [hxb]
 refine sp rfl (PE.shlN (m:=1) (n:=xb) rfl rfl rfl (by omega) (by omega)) rfl (sp rfl (PE.orN (m:=Z4r r.d.h.gaps c m k) (n:=1*2 ^ xb) rfl rfl (Nat.lt_trans hlt (by decide)) (by omega)) rfl (pur 1 rfl (sqt 7 rfl (sp rfl (PE.fA ZV rfl) rfl (spL rfl rfl (lh sc3 rfl rfl) rfl (sp rfl (PE.fA Z0T rfl) rfl (spL rfl rfl (lh sc3 rfl rfl) rfl ?_)))))))
 rw [hxb]
 refine sp rfl (PE.shrN (m:=m) (n:=xb) rfl rfl (by omega)) rfl (sp rfl (PE.andN (m:=m>>>xb) (n:=1) rfl rfl rfl (Nat.le_trans (Nat.shiftRight_le _ _) (by omega)) (by decide)) rfl (pur 1 rfl ?_))
 refine Z2 rfl ?_ ?_<;>intro hc3
 rw [Z0k] at hc3
 refine sqr 6 rfl (pur 1 rfl (sp rfl (PE.fA Z0S rfl) rfl (spL rfl rfl (lh sc3 rfl rfl) rfl ?_)))
 rw [hxa]
 refine sp rfl (PE.shlN (m:=1) (n:=xa) rfl rfl rfl (by omega) (by omega)) rfl (sp rfl (PE.orN (m:=Z4r r.d.h.gaps c m k|||1*2 ^ xb) (n:=1*2 ^ xa) rfl rfl hor (by omega)) rfl (pur 1 rfl (sqr 2 rfl (sp rfl (PE.add rfl rfl (by omega)) rfl (pur 1 rfl ?_)))))
 have hn:Z4r r.d.h.gaps c m (k+1)=(Z4r r.d.h.gaps c m k|||1*2 ^ xb)|||1*2 ^ xa:=by rw [Z1J hgg,hc1,cond_false,Z8o hxa hxb];rw [hc2,hc3,cond_true,cond_true,Nat.one_mul,Nat.one_mul,Nat.or_assoc]
 exact Zx ⟨k+1,by omega⟩ (by dsimp only;omega) (by rw [hn];exact sbA) (fun w h=>h.del b7)
 rw [Z0k] at hc3
 refine Z1 (sqr 2 rfl (sp rfl (PE.add rfl rfl (by omega)) rfl (pur 1 rfl ?_)))
 have hn:Z4r r.d.h.gaps c m (k+1)=Z4r r.d.h.gaps c m k|||1*2 ^ xb:=by rw [Z1J hgg,hc1,cond_false,Z8o hxa hxb];rw [hc2,hc3,cond_true,cond_false,Nat.one_mul,Nat.or_zero]
 exact Zx ⟨k+1,by omega⟩ (by dsimp only;omega) (by rw [hn];exact sbA) (fun w h=>h.del b7)
 rw [Z0k] at hc2
 refine Z1 (sqt 7 rfl (sp rfl (PE.fA ZV rfl) rfl (spL rfl rfl (lh sc3 rfl rfl) rfl (sp rfl (PE.fA Z0T rfl) rfl (spL rfl rfl (lh sc3 rfl rfl) rfl ?_)))))
 rw [hxb]
 refine sp rfl (PE.shrN (m:=m) (n:=xb) rfl rfl (by omega)) rfl (sp rfl (PE.andN (m:=m>>>xb) (n:=1) rfl rfl rfl (Nat.le_trans (Nat.shiftRight_le _ _) (by omega)) (by decide)) rfl (pur 1 rfl ?_))
 refine Z2 rfl ?_ ?_<;>intro hc3
 rw [Z0k] at hc3
 refine sqr 6 rfl (pur 1 rfl (sp rfl (PE.fA Z0S rfl) rfl (spL rfl rfl (lh sc3 rfl rfl) rfl ?_)))
 rw [hxa]
 refine sp rfl (PE.shlN (m:=1) (n:=xa) rfl rfl rfl (by omega) (by omega)) rfl (sp rfl (PE.orN (m:=Z4r r.d.h.gaps c m k) (n:=1*2 ^ xa) rfl rfl (Nat.lt_trans hlt (by decide)) (by omega)) rfl (pur 1 rfl (sqr 2 rfl (sp rfl (PE.add rfl rfl (by omega)) rfl (pur 1 rfl ?_)))))
 have hn:Z4r r.d.h.gaps c m (k+1)=Z4r r.d.h.gaps c m k|||1*2 ^ xa:=by rw [Z1J hgg,hc1,cond_false,Z8o hxa hxb];rw [hc2,hc3,cond_true,cond_false,Nat.one_mul,Nat.zero_or]
 exact Zx ⟨k+1,by omega⟩ (by dsimp only;omega) (by rw [hn];exact sbA) (fun w h=>h.del b7)
 rw [Z0k] at hc3
 refine Z1 (sqr 2 rfl (sp rfl (PE.add rfl rfl (by omega)) rfl (pur 1 rfl ?_)))
 have hn:Z4r r.d.h.gaps c m (k+1)=Z4r r.d.h.gaps c m k:=by rw [Z1J hgg,hc1,cond_false,Z8o hxa hxb];rw [hc2,hc3,cond_false,cond_false,Nat.or_zero,Nat.or_zero]
 exact Zx ⟨k+1,by omega⟩ (by dsimp only;omega) (by rw [hn];exact sbA) (fun w h=>h.del b7)
 obtain rfl:k=r.d.h.gaps.length:=by omega
 rw [Z8O]
 refine Z7 (Z9 (Z9 (Zk (sqt 2 rfl (pur 2 rfl (Z4 ?_))))))
 exact rtA rfl rfl rfl ⟨rfl,rfl,rfl⟩ (fun w h=>h.del b3)
set_option maxHeartbeats 600000 in
theorem Zco (r:Rc) (hd:r.d.Ok) (m c:Nat) (hm:m<2 ^ 7) (hc:c<2 ^ 10) (H:Z8) (R:Z5) [hD:MemRows (some ⟨r.d.bd,0,none⟩) 4 [r.d.row] R] [hG:MemRows r.d.ag 2 (grows r.d.h.gaps) R] [hS:MemRows r.d.as_ 3 (srows r.d.h.sights) R] [sR:SubF r.d.R0 R] [hX:MemRows (some ⟨r.br,0,none⟩) 4 [r.row] R] :
    FnV Tryz.prog 262 [.pointer (some ⟨r.br,0,none⟩),.agg (plc m c).toArray] H R (.int .i64 (Z07 r.d.h.gaps m c:Nat)):=by
 refine Ze Tryz.func262 rfl Tryz.ntmps262 rfl ?_
 refine sqt 2 rfl (bx rfl rfl rfl (fun b3=>pur 1 rfl (sqt 1 rfl (pur 1 rfl (Z0 (sqt 10 rfl (pur 1 rfl (sp rfl (PE.nilCheck rfl) rfl (sp rfl (PE.fA Z7i rfl) rfl (spL rfl rfl (lfB (sz:=4) Z5H rfl) rfl (sp rfl (PE.nilCheck rfl) rfl (sp rfl (PE.fA Z1y rfl) rfl (sp rfl (PE.fA Z1A rfl) rfl (spL rfl rfl (lfB (sz:=4) Z9v rfl) rfl (sp rfl (PE.lenSl Z98 rfl) rfl ?_)))))))))))))))
 refine pur 1 rfl (Z3 ?_)
 have hok:=hd.ok
 have hgl:=hok.gl
 have hbn:=hok.bins
 have hm9:m≤1000000:=by have:(2:Nat) ^ 7=128:=rfl;omega
 have hc9:c≤1000000:=by have:(2:Nat) ^ 10=1024:=rfl;omega
 have hw7:Wth r.d.h.gaps 7:=fun g hg=>by have:=hok.gaps g hg;omega
 refine Zd (ι:={k:Nat // k≤r.d.h.gaps.length}) (fun k=>⟨[(3,.pointer (some ⟨b3,0,none⟩)),(5,.int .i64 (msF (usf r.d.h.gaps m c) k.1:Nat)),(15,r.d.h.sg r.d.ag r.d.cg),(16,.int .i64 r.d.h.gaps.length),(17,.int .i64 k.1)],(b3,cel 324 (plc m c))::H,R⟩) (fun k=>r.d.h.gaps.length-k.1) ⟨0,Nat.zero_le _⟩ ?_ (fun k=>?_)
 exact Zj idH
 obtain ⟨k,hk⟩:=k
 dsimp only at hk ⊢
 have hlt:msF (usf r.d.h.gaps m c) k<2 ^ 62:=Nat.lt_of_lt_of_le (Zid _ k) (Nat.pow_le_pow_right (by decide) (by omega))
 refine sqt 1 rfl (pur 1 rfl (Z0 ?_))
 refine Z2 rfl ?_ ?_<;>intro hc0<;>try simp only [cS] at hc0
 obtain ⟨g,hgg⟩:∃ g,r.d.h.gaps[k]?=some g:=⟨_,List.getElem?_eq_getElem (by omega)⟩
 have hgo2:=hok.gaps g (List.mem_of_getElem? hgg)
 obtain ⟨xa,hxa⟩:∃ n:Nat,g.a=n:=⟨g.a.toNat,by omega⟩
 obtain ⟨xb,hxb⟩:∃ n:Nat,g.b=n:=⟨g.b.toNat,by omega⟩
 have hp1:=Z7v (show xa<10 by omega) (Nat.le_refl _)
 have hp2:=Z7v (show xb<10 by omega) (Nat.le_refl _)
 have hp3:=Z7v (show k<10 by omega) (Nat.le_refl _)
 refine Zi (a:=r.d.ag) (sz:=2) (rows:=grows r.d.h.gaps) (by intro h0;have:=congrArg List.length h0;rw [Z48] at this;simp only [List.length_nil] at this;have:=(List.getElem?_eq_some_iff.1 hgg).1;omega) (fun bq og he=>?_)
 have hG9:=hG.mem
 rw [he] at hG9
 haveI:=MemRows.mk hG9
 rw [show r.d.h.sg r.d.ag r.d.cg = .slice (some ⟨bq,og,none⟩) r.d.h.gaps.length r.d.cg by unfold Hse.sg;rw [he]]
 have hus:=ZiC (m:=m) (c:=c) hgg hxa hxb
 refine Z1 (Z0 (Z3 (sqt 6 rfl (pur 1 rfl (sp rfl (PE.indexAddr ZcC rfl rfl (by omega) (by omega)) rfl (spL rfl rfl (lfA Zc6 (row:=grow g) (Z2w hgg) rfl) rfl (alc rfl ZbW rfl (fun b7=>pur 1 rfl ?_))))))))
 refine ZH (l':=grow g) rfl rfl rfl ZhN rfl rfl rfl rfl (nl rfl) ?_
 refine sqt 24 rfl (sp rfl (PE.fA Z33 rfl) rfl (spL rfl rfl (lh sc3 rfl rfl) rfl (pur 1 rfl (sp rfl (PE.shrN (m:=c) (n:=k) rfl rfl (by omega)) rfl (sp rfl (PE.andN (m:=c>>>k) (n:=1) rfl rfl rfl (Nat.le_trans (Nat.shiftRight_le _ _) (by omega)) (by decide)) rfl (pur 2 rfl ?_))))))
 refine Zv 28 rfl ?_ ?_<;>intro g28
 rw [Z1Q] at g28
 refine spG rfl rfl rfl rfl (PE.fA ZV rfl) rfl ?_
 refine Z0E rfl rfl rfl rfl rfl (lh sc3 rfl rfl) rfl ?_
 refine spG rfl rfl rfl rfl (PE.fA Z0S rfl) rfl ?_
 refine Z0E rfl rfl rfl rfl rfl (lh sc3 rfl rfl) rfl ?_
 rw [hxa]
 refine spG rfl rfl rfl rfl (PE.shrN (m:=m) (n:=xa) rfl rfl (by omega)) rfl ?_
 refine spG rfl rfl rfl rfl (PE.andN (m:=m>>>xa) (n:=1) rfl rfl rfl (Nat.le_trans (Nat.shiftRight_le _ _) (by omega)) (by decide)) rfl ?_
 refine pur 2 rfl ?_
 refine Zv 36 rfl ?_ ?_<;>intro g36
 rw [Z1Q] at g36
 refine pur 9 rfl ?_
 refine Zt rfl ?_
 refine sqr 5 rfl (pur 2 rfl (sp rfl (PE.shlN (m:=1) (n:=k) rfl rfl rfl (by omega) (by omega)) rfl (sp rfl (PE.orN (m:=msF (usf r.d.h.gaps m c) k) (n:=1*2 ^ k) rfl rfl hlt (by omega)) rfl (pur 1 rfl (sqr 2 rfl (sp rfl (PE.add rfl rfl (by omega)) rfl (pur 1 rfl ?_)))))))
 have hn:msF (usf r.d.h.gaps m c) (k+1)=msF (usf r.d.h.gaps m c) k|||1*2 ^ k:=by rw [Z3B,Nat.one_mul,show usf r.d.h.gaps m c k=true by rw [hus];simp_all];rfl
 exact Zx ⟨k+1,by omega⟩ (by dsimp only;omega) (by rw [hn];exact sbA) (fun w h=>h.del b7)
 rw [Z1Q] at g36
 refine spG rfl rfl rfl rfl (PE.fA ZV rfl) rfl ?_
 refine Z0E rfl rfl rfl rfl rfl (lh sc3 rfl rfl) rfl ?_
 refine spG rfl rfl rfl rfl (PE.fA Z0T rfl) rfl ?_
 refine Z0E rfl rfl rfl rfl rfl (lh sc3 rfl rfl) rfl ?_
 rw [hxb]
 refine spG rfl rfl rfl rfl (PE.shrN (m:=m) (n:=xb) rfl rfl (by omega)) rfl ?_
 refine spG rfl rfl rfl rfl (PE.andN (m:=m>>>xb) (n:=1) rfl rfl rfl (Nat.le_trans (Nat.shiftRight_le _ _) (by omega)) (by decide)) rfl ?_
 refine pur 3 rfl ?_
 refine Z2 rfl ?_ ?_<;>intro hc1
 try rw [Z1Q] at hc1
 refine sqr 5 rfl (pur 2 rfl (sp rfl (PE.shlN (m:=1) (n:=k) rfl rfl rfl (by omega) (by omega)) rfl (sp rfl (PE.orN (m:=msF (usf r.d.h.gaps m c) k) (n:=1*2 ^ k) rfl rfl hlt (by omega)) rfl (pur 1 rfl (sqr 2 rfl (sp rfl (PE.add rfl rfl (by omega)) rfl (pur 1 rfl ?_)))))))
 have hn:msF (usf r.d.h.gaps m c) (k+1)=msF (usf r.d.h.gaps m c) k|||1*2 ^ k:=by rw [Z3B,Nat.one_mul,show usf r.d.h.gaps m c k=true by rw [hus];simp_all];rfl
 exact Zx ⟨k+1,by omega⟩ (by dsimp only;omega) (by rw [hn];exact sbA) (fun w h=>h.del b7)
 try rw [Z1Q] at hc1
 refine Z1 (sqr 2 rfl (sp rfl (PE.add rfl rfl (by omega)) rfl (pur 1 rfl ?_)))
 have hn:msF (usf r.d.h.gaps m c) (k+1)=msF (usf r.d.h.gaps m c) k:=by rw [Z3B,show usf r.d.h.gaps m c k=false by rw [hus];simp_all,cond_false,Nat.or_zero]
 exact Zx ⟨k+1,by omega⟩ (by dsimp only;omega) (by rw [hn];exact sbA) (fun w h=>h.del b7)
 rw [Z1Q] at g28
 refine pur 8 rfl ?_
 repeat refine spU rfl rfl rfl rfl rfl rfl rfl ?_
 refine pur 2 rfl ?_
 refine Zq rfl ?_
 refine Z1 (sqr 2 rfl (sp rfl (PE.add rfl rfl (by omega)) rfl (pur 1 rfl ?_)))
 have hn:msF (usf r.d.h.gaps m c) (k+1)=msF (usf r.d.h.gaps m c) k:=by rw [Z3B,show usf r.d.h.gaps m c k=false by rw [hus];simp_all,cond_false,Nat.or_zero]
 exact Zx ⟨k+1,by omega⟩ (by dsimp only;omega) (by rw [hn];exact sbA) (fun w h=>h.del b7)
 obtain rfl:k=r.d.h.gaps.length:=by omega
 refine Z7 (Z9 (Z9 (Zk (sqt 2 rfl (pur 2 rfl (Z4 ?_))))))
 exact rtA rfl rfl rfl ⟨rfl,rfl,rfl⟩ (fun w h=>h.del b3)
theorem Z0F:Z2a Tryz.prog 324=some 2:=by kernel_rfl
theorem ZI:Z2a Tryz.prog 326=some 3:=by kernel_rfl
theorem Z81:cal Tryz.prog 216=true:=by kernel_rfl
theorem ZdB:cal Tryz.prog 217=true:=by kernel_rfl
theorem Z82:cal Tryz.prog 218=true:=by kernel_rfl
theorem Zhi:cal Tryz.prog 262=true:=by kernel_rfl
theorem Z7g:ZF Tryz.prog 324=some 2:=by kernel_rfl
theorem Z0x:ZF Tryz.prog 326=some 3:=by kernel_rfl
theorem Z0J:eqB Tryz.prog 10000 324=some (true,2):=by kernel_rfl
theorem ZaB:ZY Tryz.prog 322 1=some 1:=by kernel_rfl
theorem ZaC:ZY Tryz.prog 322 2=some 2:=by kernel_rfl
theorem Z09:ZY Tryz.prog 322 3=some 3:=by kernel_rfl
theorem Z0X:ZY Tryz.prog 326 0=some 0:=by kernel_rfl
theorem ZaD:ZY Tryz.prog 326 2=some 2:=by kernel_rfl
theorem Z0M:Z0A Tryz.prog 320=some (324,326):=by kernel_rfl
theorem Z0N:Z2H Tryz.prog 10000 324=true:=by kernel_rfl
theorem Z7u:ZP Tryz.prog 324=some [(0,1),(1,1)]:=by kernel_rfl
theorem Zbh:ZP Tryz.prog 326=some [(0,1),(1,1),(2,1)]:=by kernel_rfl
theorem Z20:Z0h Tryz.prog 320=true:=by kernel_rfl
theorem Z3u:Zr Tryz.prog 324=some ([.int .i64 0,.int .i64 0]):=by kernel_rfl
theorem Z4x:Zr Tryz.prog 326=some ([.int .i64 0,.int .i64 0,.bool false]):=by kernel_rfl
theorem Zkr:zvl Tryz.prog 326=some (.agg #[.int .i64 0,.int .i64 0,.bool false]):=by kernel_rfl
def svv (n l:Nat) (b:Bool):Value:=.agg #[.int .i64 (n:Int),.int .i64 (l:Int),.bool b]
def svl (n l:Nat) (b:Bool):List Value:=[.int .i64 (n:Int),.int .i64 (l:Int),.bool b]
theorem ZdK {n s:Nat} (h:s<2 ^ n):∀ j,cnt (n+j) s=cnt n s
 | 0=>rfl
 | j+1=>by
   have ih:=ZdK h j
   unfold cnt at ih ⊢
   rw [← Nat.add_assoc,List.range_succ,List.countP_append,ih,List.countP_cons,List.countP_nil,ZeD h (show n≤n+j by omega)];rfl
theorem Z8z {n s:Nat} (h:s<2 ^ n) (hn:n≤10):(Z2E s).length=cnt n s:=by
 rw [← ZdK h (10-n),show n+(10-n)=10 by omega]
 unfold Z2E cnt
 rw [List.length_map,List.countP_eq_length_filter]
def Memo (gs:List Gp) (K sp:Nat) (kv:KV):Prop:=∀ e∈kv,∃ (m c n l:Nat) (b:Bool),e=([(m:Int),(c:Int)],svv n l b)∧Z4y gs K sp m c n l b
theorem Memo.len {gs:List Gp} {K sp:Nat} {kv:KV} (h:Memo gs K sp kv):∀ e∈kv,e.1.length=2:=fun e he=>by
 obtain ⟨m,c,n,l,b,rfl,_⟩:=h e he;rfl
theorem Memo.nil (gs:List Gp) (K sp:Nat):Memo gs K sp []:=fun e he=>by cases he
theorem Memo.get {gs:List Gp} {K sp:Nat} {kv:KV} (h:Memo gs K sp kv) {m c:Nat} {v:Value} (hg:kv.get [(m:Int),(c:Int)]=some v):∃ (n l:Nat) (b:Bool),v=svv n l b∧Z4y gs K sp m c n l b:=by
 unfold KV.get at hg
 obtain ⟨e,he,rfl⟩:=Option.map_eq_some_iff.1 hg
 obtain ⟨m',c',n,l,b,rfl,hb⟩:=h e (List.mem_of_find?_eq_some he)
 have hk:=List.find?_some he
 simp only [decide_eq_true_eq,List.cons.injEq,and_true] at hk
 obtain rfl:m'=m:=by omega
 obtain rfl:c'=c:=by omega
 exact ⟨n,l,b,rfl,hb⟩
theorem Memo.put {gs:List Gp} {K sp:Nat} {kv:KV} (h:Memo gs K sp kv) {m c n l:Nat} {b:Bool} (hb:Z4y gs K sp m c n l b):Memo gs K sp (kv.put [(m:Int),(c:Int)] (svv n l b)):=fun e he=>by
 rcases KV.put_mem he with rfl | h1
 · exact ⟨m,c,n,l,b,rfl,hb⟩
 · exact h e h1
def Zj1 (r:Rc) (m c:Nat) (H:Z8) (R:Z5):Value→Z8→Z5→Prop:=fun v H' R'=>∃ (n l:Nat) (b:Bool) (kv':KV),v=svv n l b∧Z4y r.d.h.gaps r.K r.sp m c n l b∧Memo r.d.h.gaps r.K r.sp kv'∧H'=(r.mm,Zz true kv')::H∧R'=R
theorem Zbc {a b:Nat} (ha:a<2 ^ 10) (hb:b<2 ^ 10):a|||b<2 ^ 10:=Nat.or_lt_two_pow ha hb
theorem Ze3 {a n:Nat} (h:a<2 ^ n) (hn:n≤10):a<2 ^ 62:=Nat.lt_of_lt_of_le h (Nat.pow_le_pow_right (by decide) (by omega))
theorem Ze2 {gs:List Gp} {K sp:Nat} {H:Z8} {R:Z5} {kv:KV} (hme:Memo gs K sp kv) {m c n l mm:Nat} {b s:Bool} (hgd:(kv.get [(m:Int),(c:Int)]).getD (svv 0 0 false)=svv n l b) (hgs:(kv.get [(m:Int),(c:Int)]).isSome=s) [hM:Mem1 mm (Zz true kv) H] :
   ∀ w,St H R w→Lkp Tryz.prog 320 (.map (some mm)) (mkv true [(m:Int),(c:Int)]) true (.tuple #[svv n l b,.bool s]) w:=fun w hw=>by
 have h:=Z0L (b:=true) (m:=mm) (H:=H) (R:=R) kv [(m:Int),(c:Int)] Z0M (KeyT.of Z0J Z0N) (ZZ Zkr) rfl hme.len true w hw
 rw [hgs] at h
 rw [← hgd]
 exact h
def Zj2 (r:Rc) (q:Nat):Prop:=∀ (m c:Nat) (kv:KV) (H:Z8) (R:Z5) [hD:MemRows (some ⟨r.d.bd,0,none⟩) 4 [r.d.row] R] [hG:MemRows r.d.ag 2 (grows r.d.h.gaps) R] [hS:MemRows r.d.as_ 3 (srows r.d.h.sights) R] [sR:SubF r.d.R0 R] [hX:MemRows (some ⟨r.br,0,none⟩) 4 [r.row] R],m<2 ^ 7→c<2 ^ 10→128≤m+q→Memo r.d.h.gaps r.K r.sp kv→Fn Tryz.prog 216 [.pointer (some ⟨r.br,0,none⟩),.agg (plc m c).toArray] ((r.mm,Zz true kv)::H) R (Zj1 r m c H R)
set_option maxHeartbeats 1000000 in
theorem Z3O (r:Rc) (hd:r.d.Ok) (hK:r.K<2 ^ 7) (hsp:r.sp≤1000) (q:Nat) (ih:∀ q9,q=q9+1→Zj2 r q9) :
    Zj2 r q:=by
 intro m c kv H R hD hG hS sR hX hm hc hq hme
 refine Ze Tryz.func216 rfl Tryz.ntmps216 rfl ?_
 refine sqt 2 rfl (bx rfl rfl rfl (fun b3=>alc rfl Z4x rfl (fun b4=>Z0 (Z0 ?_))))
 refine Zb [0,1,3,7,0,31,63,127,127,0,767,2047] (tks 0 3 (.ld 3 (.ld 4 (.ld 5 (tks 6 3 (.big 9 (.big 10 (.tk 11 .done)))))))) Zo (by kernel_rfl) ?_
 have hok:=hd.ok
 have hgl:=hok.gl
 have hbn:=hok.bins
 have hw7:Wth r.d.h.gaps 7:=fun g hg=>by have:=hok.gaps g hg;omega
 have h27:(2:Nat) ^ 7=128:=rfl
 obtain ⟨q9,rfl⟩:∃ q9,q=q9+1:=⟨q-1,by omega⟩
 obtain ⟨n0,l0,lb0,s0,hgd,hgs,hb0⟩:∃ (n0 l0:Nat) (lb0 s0:Bool),(kv.get [(m:Int),(c:Int)]).getD (svv 0 0 false)=svv n0 l0 lb0∧(kv.get [(m:Int),(c:Int)]).isSome=s0∧(s0=true→Z4y r.d.h.gaps r.K r.sp m c n0 l0 lb0):=by
   cases hg9:kv.get [(m:Int),(c:Int)] with
   | none=>exact ⟨0,0,false,false,rfl,rfl,fun h=>by cases h⟩
   | some sv=>obtain ⟨n1,l1,b1,rfl,hb⟩:=hme.get hg9;exact ⟨n1,l1,b1,true,rfl,rfl,fun _=>hb⟩
 refine Zl 1 rfl (tk rfl (PE.nilCheck rfl) rfl (tk rfl (PE.fA Z09 rfl) rfl (ld rfl rfl (lfB (sz:=4) Z20 rfl) rfl (ld rfl rfl (lhA (plc m c) Z0F rfl rfl rfl) rfl ?_))))
 refine ldK rfl rfl rfl ((Ze2 hme hgd hgs)) rfl ?_
 refine Zl 3 rfl (alc rfl Z4x rfl (fun b5=>?_))
 refine bg (fun w hs=>⟨((Ze2 hme hgd hgs)) w hs,(lhA (plc m c) Z0F rfl rfl rfl) w hs,(lfB (sz:=4) Z20 rfl) w hs,trivial⟩) ?_
 refine ZH (l':=svl (n0) (l0) (lb0)) rfl rfl rfl Z0x rfl rfl rfl rfl (nl rfl) ?_
 refine bgT (Zl 1 rfl (sqt 1 rfl (pur 1 rfl ?_)))
 refine Z2 rfl ?_ ?_<;>intro hc0
 refine sqt 2 rfl (spL rfl rfl (lhA (svl (n0) (l0) (lb0)) ZI rfl rfl rfl) rfl ?_)
 refine ZH (l':=svl (n0) (l0) (lb0)) rfl rfl rfl Z0x rfl rfl rfl rfl (nl rfl) ?_
 refine Z4 ?_
 exact Zg (vs:=[_]) rfl (.cons (RV.cell rfl (lhA (svl (n0) (l0) (lb0)) ZI rfl rfl rfl)) .nil) rfl ⟨n0,l0,lb0,kv,rfl,hb0 hc0,hme,rfl,rfl⟩ (fun w h=>((h.del b5).del b4).del b3)
 clear hb0 hc0
 refine Z1 (sqt 3 rfl (sp rfl (PE.build (out:=[_,_,_]) Zbh Z4x rfl rfl) rfl (alc rfl Z4x rfl (fun b7=>?_))))
 refine ZH (l':=svl (11) (0) (true)) rfl rfl rfl Z0x rfl rfl rfl rfl (nl rfl) ?_
 refine sqt 4 rfl (pur 1 rfl (spL rfl rfl (lhA (plc m c) Z0F rfl rfl rfl) rfl ?_))
 refine clV rfl Zhi rfl rfl (Zco r hd m c hm hc _ _) ?_
 refine pur 1 rfl (Z0 (sqt 2 rfl (pur 2 rfl (Z3 ?_))))
 refine Zd (ι:={x:Nat×Nat×Nat×Bool×KV // x.1&&&(Z07 r.d.h.gaps m c)=x.1∧BI r.d.h.gaps r.K r.sp m c x.1 x.2.1 x.2.2.1 x.2.2.2.1∧Memo r.d.h.gaps r.K r.sp x.2.2.2.2}) (fun x=>⟨[(0,.pointer (some ⟨r.br,0,none⟩)),(3,.pointer (some ⟨b3,0,none⟩)),(4,.pointer (some ⟨b4,0,none⟩)),(7,.pointer (some ⟨b7,0,none⟩)),(8,.int .i64 ((Z07 r.d.h.gaps m c):Nat)),(9,.int .i64 (x.1.1:Nat))],(b7,cel 326 (svl (x.1.2.1) (x.1.2.2.1) (x.1.2.2.2.1)))::(b4,cel 326 [.int .i64 0,.int .i64 0,.bool false])::(b3,cel 324 (plc m c))::(r.mm,Zz true x.1.2.2.2.2)::H,R⟩) (fun x=>x.1.1) ⟨((Z07 r.d.h.gaps m c),11,0,true,kv),Nat.and_self _,BI.start _ _ _ _ _,hme⟩ ?_ (fun x=>?_)
 exact Zj (fun w h=>h.del b5)
 obtain ⟨⟨now,n,l,lost,kv1⟩,hsub,hbi,hme⟩:=x
 dsimp only at hsub hbi hme ⊢
 have hn11:=hbi.le
 have hnl:now<2 ^ r.d.h.gaps.length:=Nat.lt_of_le_of_lt (ZbH hsub) (Z00 _ _ _)
 have hn10:now<2 ^ 10:=Nat.lt_of_lt_of_le hnl (Nat.pow_le_pow_right (by decide) hgl)
 have hc210:=Zbc hc hn10
 have hm2:(spr r.d.h.gaps (c|||now) m)<2 ^ 7:=Z8O r.d.h.gaps (c|||now) m▸ZbF hw7 hm _
 have hcn:=Z6g r.d.h.gaps.length now
 have hn9:now<1024:=hn10
 have hsu:∀ i,now.testBit i=true→(Z07 r.d.h.gaps m c).testBit i=true:=fun i hi=>by
   have h9:((Z07 r.d.h.gaps m c)&&&now).testBit i=true:=by rw [Nat.and_comm,hsub];exact hi
   rw [Nat.testBit_and,Bool.and_eq_true] at h9;exact h9.1
 refine Z0 (Z3 (sqt 4 rfl (pur 1 rfl ?_)))
 refine cl rfl ZdB rfl rfl (Z7X now hn10 _ _) ?_
 rintro _ _ _ ⟨o,rfl,rfl,rfl⟩
 obtain ⟨ao,co,heo,hfz⟩:=o.freeze
 rw [heo,irl,Z8z hnl hgl]
 refine Sy.heap (fun w h=>St.drop h) ?_
 clear hfz heo o
 refine sp rfl (PE.lenSl ZD rfl) rfl (pur 1 rfl (Z0 (Z0 ?_)))
 refine Zb [0,0,2,0,8,0,56,126,255,0,512,0,3584,8191,0,32767] (.tk 0 (.tk 1 (.ld 2 (.tk 3 (.ld 4 (tks 5 3 (.tk 9 (.ld 10 (.tk 11 (.tk 12 (.any (.alt 8 (.tk 13 (.big 14 (.big 15 .done))) (.alt 14 (.big 8 (.tk 13 (.big 15 .done))) .stop))))))))))))) Zo (by kernel_rfl) ?_
 refine Zl 1 rfl (tk rfl (PE.fA ZV rfl) rfl (ld rfl rfl (lh sc3 rfl rfl) rfl (tk rfl (PE.fA Z33 rfl) rfl (ld rfl rfl (lh sc3 rfl rfl) rfl (Zl 1 rfl (tk rfl (PE.orN (m:=c) (n:=now) rfl rfl (Ze3 hc (Nat.le_refl _)) (Ze3 hn10 (Nat.le_refl _))) rfl (tk rfl (PE.build (out:=[_,_]) Z7u Z3u rfl rfl) rfl (tk rfl (PE.fA Z33 rfl) rfl (ld rfl rfl (lh sc3 rfl rfl) rfl (Zl 1 rfl (tk rfl (PE.orN (m:=c) (n:=now) rfl rfl (Ze3 hc (Nat.le_refl _)) (Ze3 hn10 (Nat.le_refl _))) rfl ?_)))))))))))
 refine Z1o ?_ ?_
 refine clV rfl Z82 rfl rfl (Z3w r hd m (c|||now) hm hc210 _ _) ?_
 refine bg (fun w hs=>⟨(lh sc3 rfl rfl) w hs,trivial,trivial,trivial⟩) ?_
 refine tk rfl (PE.build (out:=[_,_]) Z7u Z3u rfl rfl) rfl (alc rfl Z3u rfl (fun b11=>?_))
 refine bg (fun w hs=>⟨(lh sc3 rfl rfl) w hs,trivial⟩) ?_
 refine ZH (l':=plc (spr r.d.h.gaps (c|||now) m) (c|||now)) rfl rfl rfl Z7g rfl rfl rfl rfl (nl rfl) ?_
 refine bgT (Z0 ?_)
 refine Zb [0,0,2,6,14,31,63,127,127,383,1023,2047,4095,8191,16383,8191,40959,106495,237567,524287,1048575,2097151] (tks 0 4 (.ld 4 (tks 5 4 (.ld 9 (tks 10 4 (.ld 14 (tks 15 3 (.ld 18 (tks 19 3 .done))))))))) Zo (by kernel_rfl) ?_
 refine Zl 2 rfl (tk rfl (PE.nilCheck rfl) rfl (tk rfl (PE.fA ZaC rfl) rfl (ld rfl rfl (lfB (sz:=4) sc3 rfl) rfl (Zl 2 rfl ?_))))
 refine Zv 56 rfl ?_ ?_<;>intro g56
 try simp only [cS] at g56
 refine Zl 1 rfl ?_
 refine tkG rfl rfl rfl rfl (PE.fA Z0X rfl) rfl ?_
 refine ldG rfl rfl rfl rfl rfl (lh sc3 rfl rfl) rfl (Zl 3 rfl ?_)
 refine Zv 62 rfl ?_ ?_<;>intro g62
 try simp only [cS] at g62
 refine tkG rfl rfl rfl rfl (PE.fA ZV rfl) rfl ?_
 refine ldG rfl rfl rfl rfl rfl (lh sc3 rfl rfl) rfl (Zl 1 rfl ?_)
 refine tkG rfl rfl rfl rfl (PE.nilCheck rfl) rfl ?_
 refine tkG rfl rfl rfl rfl (PE.fA ZaB rfl) rfl ?_
 refine ldG rfl rfl rfl rfl rfl (lfB (sz:=4) sc3 rfl) rfl ?_
 refine tkG rfl rfl rfl rfl (PE.andN (m:=(spr r.d.h.gaps (c|||now) m)) (n:=r.K) rfl rfl rfl (by omega) (by omega)) rfl ?_
 refine Zl 2 rfl ?_
 refine Z2 rfl ?_ ?_<;>intro hc1<;>try simp only [cS] at hc1
 have hk0:(spr r.d.h.gaps (c|||now) m)&&&r.K=0:=by omega
 refine Z0 (sqt 5 rfl (sp rfl (PE.fA ZV rfl) rfl (spL rfl rfl (lh sc3 rfl rfl) rfl (sp rfl (PE.fA ZV rfl) rfl (spL rfl rfl (lh sc3 rfl rfl) rfl (pur 1 rfl ?_))))))
 refine Z2 rfl ?_ ?_<;>intro hc2<;>try simp only [cS] at hc2
 have hne:(spr r.d.h.gaps (c|||now) m)≠m:=by omega
 have hgr:=Z3E hne
 refine sqt 5 rfl (pur 1 rfl ?_)
 refine ZG r.mm ?_
 refine spL rfl rfl (lhA (plc (spr r.d.h.gaps (c|||now) m) (c|||now)) Z0F rfl rfl rfl) rfl ?_
 refine cl rfl Z81 rfl rfl (ih q9 rfl (spr r.d.h.gaps (c|||now) m) (c|||now) kv1 _ _ hm2 hc210 (by omega) hme) ?_
 rintro _ _ R1 ⟨n3,l3,lb3,kv3,rfl,hb3,hme3,rfl,hR1⟩
 obtain rfl:=hR1.symm
 clear hR1
 have hme:=hme3
 have hn3:n3≤11:=by rcases hb3 with ⟨_,p,_⟩ | ⟨_,p,_⟩<;>omega
 refine alc rfl Z4x rfl (fun b12=>?_)
 refine ZH (l':=svl (n3) (l3) (lb3)) rfl rfl rfl Z0x rfl rfl rfl rfl (nl rfl) ?_
 refine sqt 5 rfl (pur 1 rfl (sp rfl (PE.fA Z0X rfl) rfl (spL rfl rfl (lh sc3 rfl rfl) rfl (sp rfl (PE.add rfl rfl (by omega)) rfl ?_))))
 rw [show (((cnt r.d.h.gaps.length now):Nat):Int)+(n3:Int)=(((cnt r.d.h.gaps.length now)+n3:Nat):Int) from by omega]
 refine pur 1 rfl (sqt 2 rfl (sp rfl (PE.fA ZaD rfl) rfl (spL rfl rfl (lh sc4 rfl rfl) rfl ?_)))
 refine Z2 rfl ?_ ?_<;>intro hc3
 obtain rfl:lb3=true:=hc3
 have hnp:=(hb3.resolve_right (fun h=>by cases h.1)).2.2.2
 have hno:∀ n9,Cnd r.d.h.gaps r.K r.sp m c now n9→n≤n9:=fun n9 hcn=>by
   obtain ⟨p1,p2,p3,p4⟩:=hcn
   rcases p4 with ⟨p5,_⟩ | ⟨_,k,_,p6⟩
   · exact absurd p5 hne
   · exact absurd p6.1 (hnp k)
 refine sqr 1 rfl (pur 1 rfl (sqt 4 rfl (pur 1 rfl (sp rfl (PE.fA Z0X rfl) rfl (spL rfl rfl (lh sc3 rfl rfl) rfl (pur 1 rfl ?_))))))
 refine Z2 rfl ?_ ?_<;>intro hc4
 simp only [decide_eq_true_eq] at hc4
 omega
 refine Z1 (sqt 2 rfl (pur 2 rfl ?_))
 refine Z2 rfl ?_ ?_<;>intro hc5<;>try simp only [cS] at hc5
 have hz0:now=0:=by omega
 refine Z7 (ZX (by decide) (Z9 (Z9 (Zk (Z0 ?_)))))
 refine Zb [0,1,3,7,0,0,63] (tks 0 3 (.ld 3 (.ld 4 (.ld 5 (.big 6 .done))))) Zo (by kernel_rfl) ?_
 refine Zl 1 rfl (tk rfl (PE.nilCheck rfl) rfl (tk rfl (PE.fA Z09 rfl) rfl (ld rfl rfl (lfB (sz:=4) Z20 rfl) rfl (ld rfl rfl (lhA (plc m c) Z0F rfl rfl rfl) rfl (ld rfl rfl (lhA (svl (n) (l) (lost)) ZI rfl rfl rfl) rfl ?_)))))
 refine mpu kv3 [(m:Int),(c:Int)] (v:=svv (n) (l) (lost)) rfl Z0M (KeyT.of Z0J Z0N) rfl rfl rfl rfl hme.len ?_
 refine bgT (sqt 2 rfl (spL rfl rfl (lhA (svl (n) (l) (lost)) ZI rfl rfl rfl) rfl ?_))
 refine ZH (l':=svl (n) (l) (lost)) rfl rfl rfl Z0x rfl rfl rfl rfl (nl rfl) ?_
 refine Z4 ?_
 have hfin:Z4y r.d.h.gaps r.K r.sp m c (n) (l) (lost):=by subst hz0;exact BI.endNo hgl hbi hno
 exact Zg (vs:=[_]) rfl (.cons (RV.cell rfl (lhA (svl (n) (l) (lost)) ZI rfl rfl rfl)) .nil) rfl ⟨_,_,_,_,rfl,hfin,hme.put hfin,rfl,rfl⟩ (fun w h=>((((((((h.del b12).del b11).pull b3).pull b4).pull b7)).del b7).del b4).del b3)
 have h0:now≠0:=by omega
 refine Z1 (sqr 5 rfl (pur 1 rfl (sp rfl (PE.sub rfl rfl (by omega)) rfl (pur 1 rfl ?_))))
 rw [show (now:Int)-1=((now-1:Nat):Int) from by omega]
 refine sp rfl (PE.andN (m:=now-1) (n:=(Z07 r.d.h.gaps m c)) rfl rfl rfl (by omega) (by have:=Z00 r.d.h.gaps m c;have:2 ^ r.d.h.gaps.length≤2 ^ 10:=Nat.pow_le_pow_right (by decide) hgl;have e9:(2:Nat) ^ 10=1024:=rfl;omega)) rfl (pur 1 rfl ?_)
 have hlt:(now-1)&&&(Z07 r.d.h.gaps m c)<now:=Nat.lt_of_le_of_lt Nat.and_le_left (by omega)
 exact Zf ⟨((now-1)&&&(Z07 r.d.h.gaps m c),n,l,lost,kv3),by dsimp only;rw [Nat.and_assoc,Nat.and_self],hbi.no hsub h0 hno,hme⟩ hlt (fun w h=>(((((h.del b12).del b11).pull b3).pull b4).pull b7))
 obtain rfl:lb3=false:=hc3
 have hlb:=(hb3.resolve_left (fun h=>by cases h.1)).2.2.1
 have htk:Cnd r.d.h.gaps r.K r.sp m c now ((cnt r.d.h.gaps.length now)+n3):=⟨hsu,by omega,hk0,.inr ⟨hne,n3,rfl,hlb⟩⟩
 refine Z1 (sqt 4 rfl (pur 1 rfl (sp rfl (PE.fA Z0X rfl) rfl (spL rfl rfl (lh sc3 rfl rfl) rfl (pur 1 rfl ?_)))))
 refine Z2 rfl ?_ ?_<;>intro hc4<;>try simp only [cS] at hc4
 have hlt9:(cnt r.d.h.gaps.length now)+n3<n:=by omega
 refine sqr 4 rfl (pur 2 rfl (sp rfl (PE.build (out:=[_,_,_]) Zbh Z4x rfl rfl) rfl ?_))
 refine ZH (l':=svl ((cnt r.d.h.gaps.length now)+n3) (now) (false)) rfl rfl rfl Z0x rfl rfl rfl rfl (nl rfl) ?_
 refine sqt 2 rfl (pur 2 rfl ?_)
 refine Z2 rfl ?_ ?_<;>intro hc5<;>try simp only [cS] at hc5
 have hz0:now=0:=by omega
 refine Z7 (ZX (by decide) (Z9 (Z9 (Zk (Z0 ?_)))))
 refine Zb [0,1,3,7,0,0,63] (tks 0 3 (.ld 3 (.ld 4 (.ld 5 (.big 6 .done))))) Zo (by kernel_rfl) ?_
 refine Zl 1 rfl (tk rfl (PE.nilCheck rfl) rfl (tk rfl (PE.fA Z09 rfl) rfl (ld rfl rfl (lfB (sz:=4) Z20 rfl) rfl (ld rfl rfl (lhA (plc m c) Z0F rfl rfl rfl) rfl (ld rfl rfl (lhA (svl ((cnt r.d.h.gaps.length now)+n3) (now) (false)) ZI rfl rfl rfl) rfl ?_)))))
 refine mpu kv3 [(m:Int),(c:Int)] (v:=svv ((cnt r.d.h.gaps.length now)+n3) (now) (false)) rfl Z0M (KeyT.of Z0J Z0N) rfl rfl rfl rfl hme.len ?_
 refine bgT (sqt 2 rfl (spL rfl rfl (lhA (svl ((cnt r.d.h.gaps.length now)+n3) (now) (false)) ZI rfl rfl rfl) rfl ?_))
 refine ZH (l':=svl ((cnt r.d.h.gaps.length now)+n3) (now) (false)) rfl rfl rfl Z0x rfl rfl rfl rfl (nl rfl) ?_
 refine Z4 ?_
 have hfin:Z4y r.d.h.gaps r.K r.sp m c ((cnt r.d.h.gaps.length now)+n3) (now) (false):=by subst hz0;exact BI.endTake hgl hbi htk hlt9
 exact Zg (vs:=[_]) rfl (.cons (RV.cell rfl (lhA (svl ((cnt r.d.h.gaps.length now)+n3) (now) (false)) ZI rfl rfl rfl)) .nil) rfl ⟨_,_,_,_,rfl,hfin,hme.put hfin,rfl,rfl⟩ (fun w h=>((((((((h.del b12).del b11).pull b3).pull b4).pull b7)).del b7).del b4).del b3)
 have h0:now≠0:=by omega
 refine Z1 (sqr 5 rfl (pur 1 rfl (sp rfl (PE.sub rfl rfl (by omega)) rfl (pur 1 rfl ?_))))
 rw [show (now:Int)-1=((now-1:Nat):Int) from by omega]
 refine sp rfl (PE.andN (m:=now-1) (n:=(Z07 r.d.h.gaps m c)) rfl rfl rfl (by omega) (by have:=Z00 r.d.h.gaps m c;have:2 ^ r.d.h.gaps.length≤2 ^ 10:=Nat.pow_le_pow_right (by decide) hgl;have e9:(2:Nat) ^ 10=1024:=rfl;omega)) rfl (pur 1 rfl ?_)
 have hlt:(now-1)&&&(Z07 r.d.h.gaps m c)<now:=Nat.lt_of_le_of_lt Nat.and_le_left (by omega)
 exact Zf ⟨((now-1)&&&(Z07 r.d.h.gaps m c),(cnt r.d.h.gaps.length now)+n3,now,false,kv3),by dsimp only;rw [Nat.and_assoc,Nat.and_self],hbi.take hsub h0 htk hlt9,hme⟩ hlt (fun w h=>(((((h.del b12).del b11).pull b3).pull b4).pull b7))
 have hno:∀ n9,Cnd r.d.h.gaps r.K r.sp m c now n9→n≤n9:=fun n9 hcn=>by rw [hcn.unique htk];omega
 refine Z1 (sqt 2 rfl (pur 2 rfl ?_))
 refine Z2 rfl ?_ ?_<;>intro hc5<;>try simp only [cS] at hc5
 have hz0:now=0:=by omega
 refine Z7 (ZX (by decide) (Z9 (Z9 (Zk (Z0 ?_)))))
 refine Zb [0,1,3,7,0,0,63] (tks 0 3 (.ld 3 (.ld 4 (.ld 5 (.big 6 .done))))) Zo (by kernel_rfl) ?_
 refine Zl 1 rfl (tk rfl (PE.nilCheck rfl) rfl (tk rfl (PE.fA Z09 rfl) rfl (ld rfl rfl (lfB (sz:=4) Z20 rfl) rfl (ld rfl rfl (lhA (plc m c) Z0F rfl rfl rfl) rfl (ld rfl rfl (lhA (svl (n) (l) (lost)) ZI rfl rfl rfl) rfl ?_)))))
 refine mpu kv3 [(m:Int),(c:Int)] (v:=svv (n) (l) (lost)) rfl Z0M (KeyT.of Z0J Z0N) rfl rfl rfl rfl hme.len ?_
 refine bgT (sqt 2 rfl (spL rfl rfl (lhA (svl (n) (l) (lost)) ZI rfl rfl rfl) rfl ?_))
 refine ZH (l':=svl (n) (l) (lost)) rfl rfl rfl Z0x rfl rfl rfl rfl (nl rfl) ?_
 refine Z4 ?_
 have hfin:Z4y r.d.h.gaps r.K r.sp m c (n) (l) (lost):=by subst hz0;exact BI.endNo hgl hbi hno
 exact Zg (vs:=[_]) rfl (.cons (RV.cell rfl (lhA (svl (n) (l) (lost)) ZI rfl rfl rfl)) .nil) rfl ⟨_,_,_,_,rfl,hfin,hme.put hfin,rfl,rfl⟩ (fun w h=>((((((((h.del b12).del b11).pull b3).pull b4).pull b7)).del b7).del b4).del b3)
 have h0:now≠0:=by omega
 refine Z1 (sqr 5 rfl (pur 1 rfl (sp rfl (PE.sub rfl rfl (by omega)) rfl (pur 1 rfl ?_))))
 rw [show (now:Int)-1=((now-1:Nat):Int) from by omega]
 refine sp rfl (PE.andN (m:=now-1) (n:=(Z07 r.d.h.gaps m c)) rfl rfl rfl (by omega) (by have:=Z00 r.d.h.gaps m c;have:2 ^ r.d.h.gaps.length≤2 ^ 10:=Nat.pow_le_pow_right (by decide) hgl;have e9:(2:Nat) ^ 10=1024:=rfl;omega)) rfl (pur 1 rfl ?_)
 have hlt:(now-1)&&&(Z07 r.d.h.gaps m c)<now:=Nat.lt_of_le_of_lt Nat.and_le_left (by omega)
 exact Zf ⟨((now-1)&&&(Z07 r.d.h.gaps m c),n,l,lost,kv3),by dsimp only;rw [Nat.and_assoc,Nat.and_self],hbi.no hsub h0 hno,hme⟩ hlt (fun w h=>(((((h.del b12).del b11).pull b3).pull b4).pull b7))
 have heq:(spr r.d.h.gaps (c|||now) m)=m:=by omega
 have htk:Cnd r.d.h.gaps r.K r.sp m c now (cnt r.d.h.gaps.length now):=⟨hsu,by omega,hk0,.inl ⟨heq,rfl⟩⟩
 have hlt9:(cnt r.d.h.gaps.length now)<n:=by omega
 refine Z1 (sqt 4 rfl (pur 1 rfl (sp rfl (PE.fA Z0X rfl) rfl (spL rfl rfl (lh sc3 rfl rfl) rfl (pur 1 rfl ?_)))))
 refine Z2 rfl ?_ ?_<;>intro hc4
 refine sqr 4 rfl (pur 2 rfl (sp rfl (PE.build (out:=[_,_,_]) Zbh Z4x rfl rfl) rfl ?_))
 refine ZH (l':=svl ((cnt r.d.h.gaps.length now)) (now) (false)) rfl rfl rfl Z0x rfl rfl rfl rfl (nl rfl) ?_
 refine sqt 2 rfl (pur 2 rfl ?_)
 refine Z2 rfl ?_ ?_<;>intro hc5<;>try simp only [cS] at hc5
 have hz0:now=0:=by omega
 refine Z7 (ZX (by decide) (Z9 (Z9 (Zk (Z0 ?_)))))
 refine Zb [0,1,3,7,0,0,63] (tks 0 3 (.ld 3 (.ld 4 (.ld 5 (.big 6 .done))))) Zo (by kernel_rfl) ?_
 refine Zl 1 rfl (tk rfl (PE.nilCheck rfl) rfl (tk rfl (PE.fA Z09 rfl) rfl (ld rfl rfl (lfB (sz:=4) Z20 rfl) rfl (ld rfl rfl (lhA (plc m c) Z0F rfl rfl rfl) rfl (ld rfl rfl (lhA (svl ((cnt r.d.h.gaps.length now)) (now) (false)) ZI rfl rfl rfl) rfl ?_)))))
 refine mpu kv1 [(m:Int),(c:Int)] (v:=svv ((cnt r.d.h.gaps.length now)) (now) (false)) rfl Z0M (KeyT.of Z0J Z0N) rfl rfl rfl rfl hme.len ?_
 refine bgT (sqt 2 rfl (spL rfl rfl (lhA (svl ((cnt r.d.h.gaps.length now)) (now) (false)) ZI rfl rfl rfl) rfl ?_))
 refine ZH (l':=svl ((cnt r.d.h.gaps.length now)) (now) (false)) rfl rfl rfl Z0x rfl rfl rfl rfl (nl rfl) ?_
 refine Z4 ?_
 have hfin:Z4y r.d.h.gaps r.K r.sp m c ((cnt r.d.h.gaps.length now)) (now) (false):=by subst hz0;exact BI.endTake hgl hbi htk hlt9
 exact Zg (vs:=[_]) rfl (.cons (RV.cell rfl (lhA (svl ((cnt r.d.h.gaps.length now)) (now) (false)) ZI rfl rfl rfl)) .nil) rfl ⟨_,_,_,_,rfl,hfin,hme.put hfin,rfl,rfl⟩ (fun w h=>(((h.del b11).del b7).del b4).del b3)
 have h0:now≠0:=by omega
 refine Z1 (sqr 5 rfl (pur 1 rfl (sp rfl (PE.sub rfl rfl (by omega)) rfl (pur 1 rfl ?_))))
 rw [show (now:Int)-1=((now-1:Nat):Int) from by omega]
 refine sp rfl (PE.andN (m:=now-1) (n:=(Z07 r.d.h.gaps m c)) rfl rfl rfl (by omega) (by have:=Z00 r.d.h.gaps m c;have:2 ^ r.d.h.gaps.length≤2 ^ 10:=Nat.pow_le_pow_right (by decide) hgl;have e9:(2:Nat) ^ 10=1024:=rfl;omega)) rfl (pur 1 rfl ?_)
 have hlt:(now-1)&&&(Z07 r.d.h.gaps m c)<now:=Nat.lt_of_le_of_lt Nat.and_le_left (by omega)
 exact Zf ⟨((now-1)&&&(Z07 r.d.h.gaps m c),(cnt r.d.h.gaps.length now),now,false,kv1),by dsimp only;rw [Nat.and_assoc,Nat.and_self],hbi.take hsub h0 htk hlt9,hme⟩ hlt (fun w h=>h.del b11)
 exact absurd hc4 (by simp;omega)
 have hno:∀ n9,Cnd r.d.h.gaps r.K r.sp m c now n9→n≤n9:=fun n9 hcn=>by
   obtain ⟨p1,p2,p3,p4⟩:=hcn
   exact absurd p3 (by omega)
 refine Z1 (sqt 2 rfl (pur 2 rfl ?_))
 refine Z2 rfl ?_ ?_<;>intro hc5<;>try simp only [cS] at hc5
 have hz0:now=0:=by omega
 refine Z7 (ZX (by decide) (Z9 (Z9 (Zk (Z0 ?_)))))
 refine Zb [0,1,3,7,0,0,63] (tks 0 3 (.ld 3 (.ld 4 (.ld 5 (.big 6 .done))))) Zo (by kernel_rfl) ?_
 refine Zl 1 rfl (tk rfl (PE.nilCheck rfl) rfl (tk rfl (PE.fA Z09 rfl) rfl (ld rfl rfl (lfB (sz:=4) Z20 rfl) rfl (ld rfl rfl (lhA (plc m c) Z0F rfl rfl rfl) rfl (ld rfl rfl (lhA (svl (n) (l) (lost)) ZI rfl rfl rfl) rfl ?_)))))
 refine mpu kv1 [(m:Int),(c:Int)] (v:=svv (n) (l) (lost)) rfl Z0M (KeyT.of Z0J Z0N) rfl rfl rfl rfl hme.len ?_
 refine bgT (sqt 2 rfl (spL rfl rfl (lhA (svl (n) (l) (lost)) ZI rfl rfl rfl) rfl ?_))
 refine ZH (l':=svl (n) (l) (lost)) rfl rfl rfl Z0x rfl rfl rfl rfl (nl rfl) ?_
 refine Z4 ?_
 have hfin:Z4y r.d.h.gaps r.K r.sp m c (n) (l) (lost):=by subst hz0;exact BI.endNo hgl hbi hno
 exact Zg (vs:=[_]) rfl (.cons (RV.cell rfl (lhA (svl (n) (l) (lost)) ZI rfl rfl rfl)) .nil) rfl ⟨_,_,_,_,rfl,hfin,hme.put hfin,rfl,rfl⟩ (fun w h=>(((h.del b11).del b7).del b4).del b3)
 have h0:now≠0:=by omega
 refine Z1 (sqr 5 rfl (pur 1 rfl (sp rfl (PE.sub rfl rfl (by omega)) rfl (pur 1 rfl ?_))))
 rw [show (now:Int)-1=((now-1:Nat):Int) from by omega]
 refine sp rfl (PE.andN (m:=now-1) (n:=(Z07 r.d.h.gaps m c)) rfl rfl rfl (by omega) (by have:=Z00 r.d.h.gaps m c;have:2 ^ r.d.h.gaps.length≤2 ^ 10:=Nat.pow_le_pow_right (by decide) hgl;have e9:(2:Nat) ^ 10=1024:=rfl;omega)) rfl (pur 1 rfl ?_)
 have hlt:(now-1)&&&(Z07 r.d.h.gaps m c)<now:=Nat.lt_of_le_of_lt Nat.and_le_left (by omega)
 exact Zf ⟨((now-1)&&&(Z07 r.d.h.gaps m c),n,l,lost,kv1),by dsimp only;rw [Nat.and_assoc,Nat.and_self],hbi.no hsub h0 hno,hme⟩ hlt (fun w h=>h.del b11)
 try simp only [cS] at g62
 have hno:∀ n9,Cnd r.d.h.gaps r.K r.sp m c now n9→n≤n9:=fun n9 hcn=>by
   obtain ⟨p1,p2,p3,p4⟩:=hcn
   rcases p4 with ⟨_,p5⟩ | ⟨_,k,p5,_⟩<;>omega
 refine Zl 1 rfl ?_
 refine ldN rfl rfl rfl rfl rfl rfl rfl rfl ?_
 refine Zl 3 rfl ?_
 refine ldN rfl rfl rfl rfl rfl rfl rfl rfl ?_
 refine Zl 3 rfl ?_
 refine Zq rfl ?_
 refine Z1 (sqt 2 rfl (pur 2 rfl ?_))
 refine Z2 rfl ?_ ?_<;>intro hc5<;>try simp only [cS] at hc5
 have hz0:now=0:=by omega
 refine Z7 (ZX (by decide) (Z9 (Z9 (Zk (Z0 ?_)))))
 refine Zb [0,1,3,7,0,0,63] (tks 0 3 (.ld 3 (.ld 4 (.ld 5 (.big 6 .done))))) Zo (by kernel_rfl) ?_
 refine Zl 1 rfl (tk rfl (PE.nilCheck rfl) rfl (tk rfl (PE.fA Z09 rfl) rfl (ld rfl rfl (lfB (sz:=4) Z20 rfl) rfl (ld rfl rfl (lhA (plc m c) Z0F rfl rfl rfl) rfl (ld rfl rfl (lhA (svl (n) (l) (lost)) ZI rfl rfl rfl) rfl ?_)))))
 refine mpu kv1 [(m:Int),(c:Int)] (v:=svv (n) (l) (lost)) rfl Z0M (KeyT.of Z0J Z0N) rfl rfl rfl rfl hme.len ?_
 refine bgT (sqt 2 rfl (spL rfl rfl (lhA (svl (n) (l) (lost)) ZI rfl rfl rfl) rfl ?_))
 refine ZH (l':=svl (n) (l) (lost)) rfl rfl rfl Z0x rfl rfl rfl rfl (nl rfl) ?_
 refine Z4 ?_
 have hfin:Z4y r.d.h.gaps r.K r.sp m c (n) (l) (lost):=by subst hz0;exact BI.endNo hgl hbi hno
 exact Zg (vs:=[_]) rfl (.cons (RV.cell rfl (lhA (svl (n) (l) (lost)) ZI rfl rfl rfl)) .nil) rfl ⟨_,_,_,_,rfl,hfin,hme.put hfin,rfl,rfl⟩ (fun w h=>(((h.del b11).del b7).del b4).del b3)
 have h0:now≠0:=by omega
 refine Z1 (sqr 5 rfl (pur 1 rfl (sp rfl (PE.sub rfl rfl (by omega)) rfl (pur 1 rfl ?_))))
 rw [show (now:Int)-1=((now-1:Nat):Int) from by omega]
 refine sp rfl (PE.andN (m:=now-1) (n:=(Z07 r.d.h.gaps m c)) rfl rfl rfl (by omega) (by have:=Z00 r.d.h.gaps m c;have:2 ^ r.d.h.gaps.length≤2 ^ 10:=Nat.pow_le_pow_right (by decide) hgl;have e9:(2:Nat) ^ 10=1024:=rfl;omega)) rfl (pur 1 rfl ?_)
 have hlt:(now-1)&&&(Z07 r.d.h.gaps m c)<now:=Nat.lt_of_le_of_lt Nat.and_le_left (by omega)
 exact Zf ⟨((now-1)&&&(Z07 r.d.h.gaps m c),n,l,lost,kv1),by dsimp only;rw [Nat.and_assoc,Nat.and_self],hbi.no hsub h0 hno,hme⟩ hlt (fun w h=>h.del b11)
 try simp only [cS] at g56
 have hno:∀ n9,Cnd r.d.h.gaps r.K r.sp m c now n9→n≤n9:=fun n9 hcn=>by
   obtain ⟨p1,p2,p3,p4⟩:=hcn
   omega
 refine Zl 2 rfl ?_
 refine ldN rfl rfl rfl rfl rfl rfl rfl rfl ?_
 refine Zl 4 rfl ?_
 refine ldN rfl rfl rfl rfl rfl rfl rfl rfl ?_
 refine Zl 3 rfl ?_
 refine ldN rfl rfl rfl rfl rfl rfl rfl rfl ?_
 refine Zl 3 rfl ?_
 refine Zq rfl ?_
 refine Z1 (sqt 2 rfl (pur 2 rfl ?_))
 refine Z2 rfl ?_ ?_<;>intro hc5<;>try simp only [cS] at hc5
 have hz0:now=0:=by omega
 refine Z7 (ZX (by decide) (Z9 (Z9 (Zk (Z0 ?_)))))
 refine Zb [0,1,3,7,0,0,63] (tks 0 3 (.ld 3 (.ld 4 (.ld 5 (.big 6 .done))))) Zo (by kernel_rfl) ?_
 refine Zl 1 rfl (tk rfl (PE.nilCheck rfl) rfl (tk rfl (PE.fA Z09 rfl) rfl (ld rfl rfl (lfB (sz:=4) Z20 rfl) rfl (ld rfl rfl (lhA (plc m c) Z0F rfl rfl rfl) rfl (ld rfl rfl (lhA (svl (n) (l) (lost)) ZI rfl rfl rfl) rfl ?_)))))
 refine mpu kv1 [(m:Int),(c:Int)] (v:=svv (n) (l) (lost)) rfl Z0M (KeyT.of Z0J Z0N) rfl rfl rfl rfl hme.len ?_
 refine bgT (sqt 2 rfl (spL rfl rfl (lhA (svl (n) (l) (lost)) ZI rfl rfl rfl) rfl ?_))
 refine ZH (l':=svl (n) (l) (lost)) rfl rfl rfl Z0x rfl rfl rfl rfl (nl rfl) ?_
 refine Z4 ?_
 have hfin:Z4y r.d.h.gaps r.K r.sp m c (n) (l) (lost):=by subst hz0;exact BI.endNo hgl hbi hno
 exact Zg (vs:=[_]) rfl (.cons (RV.cell rfl (lhA (svl (n) (l) (lost)) ZI rfl rfl rfl)) .nil) rfl ⟨_,_,_,_,rfl,hfin,hme.put hfin,rfl,rfl⟩ (fun w h=>(((h.del b11).del b7).del b4).del b3)
 have h0:now≠0:=by omega
 refine Z1 (sqr 5 rfl (pur 1 rfl (sp rfl (PE.sub rfl rfl (by omega)) rfl (pur 1 rfl ?_))))
 rw [show (now:Int)-1=((now-1:Nat):Int) from by omega]
 refine sp rfl (PE.andN (m:=now-1) (n:=(Z07 r.d.h.gaps m c)) rfl rfl rfl (by omega) (by have:=Z00 r.d.h.gaps m c;have:2 ^ r.d.h.gaps.length≤2 ^ 10:=Nat.pow_le_pow_right (by decide) hgl;have e9:(2:Nat) ^ 10=1024:=rfl;omega)) rfl (pur 1 rfl ?_)
 have hlt:(now-1)&&&(Z07 r.d.h.gaps m c)<now:=Nat.lt_of_le_of_lt Nat.and_le_left (by omega)
 exact Zf ⟨((now-1)&&&(Z07 r.d.h.gaps m c),n,l,lost,kv1),by dsimp only;rw [Nat.and_assoc,Nat.and_self],hbi.no hsub h0 hno,hme⟩ hlt (fun w h=>h.del b11)
 refine Z1o ?_ ?_
 refine alc rfl Z3u rfl (fun b11=>?_)
 refine bg (fun w hs=>⟨(lh sc3 rfl rfl) w hs,(lh sc3 rfl rfl) w hs,(lh sc3 rfl rfl) w hs,trivial⟩) ?_
 refine clV rfl Z82 rfl rfl (Z3w r hd m (c|||now) hm hc210 _ _) ?_
 refine bg (fun w hs=>⟨(lh sc3 rfl rfl) w hs,trivial,trivial,trivial⟩) ?_
 refine tk rfl (PE.build (out:=[_,_]) Z7u Z3u rfl rfl) rfl ?_
 refine ZH (l':=plc (spr r.d.h.gaps (c|||now) m) (c|||now)) rfl rfl rfl Z7g rfl rfl rfl rfl (nl rfl) ?_
 refine bgT (Z0 ?_)
 refine Zb [0,0,2,6,14,31,63,127,127,383,1023,2047,4095,8191,16383,8191,40959,106495,237567,524287,1048575,2097151] (tks 0 4 (.ld 4 (tks 5 4 (.ld 9 (tks 10 4 (.ld 14 (tks 15 3 (.ld 18 (tks 19 3 .done))))))))) Zo (by kernel_rfl) ?_
 refine Zl 2 rfl (tk rfl (PE.nilCheck rfl) rfl (tk rfl (PE.fA ZaC rfl) rfl (ld rfl rfl (lfB (sz:=4) sc3 rfl) rfl (Zl 2 rfl ?_))))
 refine Zv 56 rfl ?_ ?_<;>intro g56
 try simp only [cS] at g56
 refine Zl 1 rfl ?_
 refine tkG rfl rfl rfl rfl (PE.fA Z0X rfl) rfl ?_
 refine ldG rfl rfl rfl rfl rfl (lh sc3 rfl rfl) rfl (Zl 3 rfl ?_)
 refine Zv 62 rfl ?_ ?_<;>intro g62
 try simp only [cS] at g62
 refine tkG rfl rfl rfl rfl (PE.fA ZV rfl) rfl ?_
 refine ldG rfl rfl rfl rfl rfl (lh sc3 rfl rfl) rfl (Zl 1 rfl ?_)
 refine tkG rfl rfl rfl rfl (PE.nilCheck rfl) rfl ?_
 refine tkG rfl rfl rfl rfl (PE.fA ZaB rfl) rfl ?_
 refine ldG rfl rfl rfl rfl rfl (lfB (sz:=4) sc3 rfl) rfl ?_
 refine tkG rfl rfl rfl rfl (PE.andN (m:=(spr r.d.h.gaps (c|||now) m)) (n:=r.K) rfl rfl rfl (by omega) (by omega)) rfl ?_
 refine Zl 2 rfl ?_
 refine Z2 rfl ?_ ?_<;>intro hc1<;>try simp only [cS] at hc1
 have hk0:(spr r.d.h.gaps (c|||now) m)&&&r.K=0:=by omega
 refine Z0 (sqt 5 rfl (sp rfl (PE.fA ZV rfl) rfl (spL rfl rfl (lh sc3 rfl rfl) rfl (sp rfl (PE.fA ZV rfl) rfl (spL rfl rfl (lh sc3 rfl rfl) rfl (pur 1 rfl ?_))))))
 refine Z2 rfl ?_ ?_<;>intro hc2<;>try simp only [cS] at hc2
 have hne:(spr r.d.h.gaps (c|||now) m)≠m:=by omega
 have hgr:=Z3E hne
 refine sqt 5 rfl (pur 1 rfl ?_)
 refine ZG r.mm ?_
 refine spL rfl rfl (lhA (plc (spr r.d.h.gaps (c|||now) m) (c|||now)) Z0F rfl rfl rfl) rfl ?_
 refine cl rfl Z81 rfl rfl (ih q9 rfl (spr r.d.h.gaps (c|||now) m) (c|||now) kv1 _ _ hm2 hc210 (by omega) hme) ?_
 rintro _ _ R1 ⟨n3,l3,lb3,kv3,rfl,hb3,hme3,rfl,hR1⟩
 obtain rfl:=hR1.symm
 clear hR1
 have hme:=hme3
 have hn3:n3≤11:=by rcases hb3 with ⟨_,p,_⟩ | ⟨_,p,_⟩<;>omega
 refine alc rfl Z4x rfl (fun b12=>?_)
 refine ZH (l':=svl (n3) (l3) (lb3)) rfl rfl rfl Z0x rfl rfl rfl rfl (nl rfl) ?_
 refine sqt 5 rfl (pur 1 rfl (sp rfl (PE.fA Z0X rfl) rfl (spL rfl rfl (lh sc3 rfl rfl) rfl (sp rfl (PE.add rfl rfl (by omega)) rfl ?_))))
 rw [show (((cnt r.d.h.gaps.length now):Nat):Int)+(n3:Int)=(((cnt r.d.h.gaps.length now)+n3:Nat):Int) from by omega]
 refine pur 1 rfl (sqt 2 rfl (sp rfl (PE.fA ZaD rfl) rfl (spL rfl rfl (lh sc4 rfl rfl) rfl ?_)))
 refine Z2 rfl ?_ ?_<;>intro hc3
 obtain rfl:lb3=true:=hc3
 have hnp:=(hb3.resolve_right (fun h=>by cases h.1)).2.2.2
 have hno:∀ n9,Cnd r.d.h.gaps r.K r.sp m c now n9→n≤n9:=fun n9 hcn=>by
   obtain ⟨p1,p2,p3,p4⟩:=hcn
   rcases p4 with ⟨p5,_⟩ | ⟨_,k,_,p6⟩
   · exact absurd p5 hne
   · exact absurd p6.1 (hnp k)
 refine sqr 1 rfl (pur 1 rfl (sqt 4 rfl (pur 1 rfl (sp rfl (PE.fA Z0X rfl) rfl (spL rfl rfl (lh sc3 rfl rfl) rfl (pur 1 rfl ?_))))))
 refine Z2 rfl ?_ ?_<;>intro hc4
 simp only [decide_eq_true_eq] at hc4
 omega
 refine Z1 (sqt 2 rfl (pur 2 rfl ?_))
 refine Z2 rfl ?_ ?_<;>intro hc5<;>try simp only [cS] at hc5
 have hz0:now=0:=by omega
 refine Z7 (ZX (by decide) (Z9 (Z9 (Zk (Z0 ?_)))))
 refine Zb [0,1,3,7,0,0,63] (tks 0 3 (.ld 3 (.ld 4 (.ld 5 (.big 6 .done))))) Zo (by kernel_rfl) ?_
 refine Zl 1 rfl (tk rfl (PE.nilCheck rfl) rfl (tk rfl (PE.fA Z09 rfl) rfl (ld rfl rfl (lfB (sz:=4) Z20 rfl) rfl (ld rfl rfl (lhA (plc m c) Z0F rfl rfl rfl) rfl (ld rfl rfl (lhA (svl (n) (l) (lost)) ZI rfl rfl rfl) rfl ?_)))))
 refine mpu kv3 [(m:Int),(c:Int)] (v:=svv (n) (l) (lost)) rfl Z0M (KeyT.of Z0J Z0N) rfl rfl rfl rfl hme.len ?_
 refine bgT (sqt 2 rfl (spL rfl rfl (lhA (svl (n) (l) (lost)) ZI rfl rfl rfl) rfl ?_))
 refine ZH (l':=svl (n) (l) (lost)) rfl rfl rfl Z0x rfl rfl rfl rfl (nl rfl) ?_
 refine Z4 ?_
 have hfin:Z4y r.d.h.gaps r.K r.sp m c (n) (l) (lost):=by subst hz0;exact BI.endNo hgl hbi hno
 exact Zg (vs:=[_]) rfl (.cons (RV.cell rfl (lhA (svl (n) (l) (lost)) ZI rfl rfl rfl)) .nil) rfl ⟨_,_,_,_,rfl,hfin,hme.put hfin,rfl,rfl⟩ (fun w h=>((((((((h.del b12).del b11).pull b3).pull b4).pull b7)).del b7).del b4).del b3)
 have h0:now≠0:=by omega
 refine Z1 (sqr 5 rfl (pur 1 rfl (sp rfl (PE.sub rfl rfl (by omega)) rfl (pur 1 rfl ?_))))
 rw [show (now:Int)-1=((now-1:Nat):Int) from by omega]
 refine sp rfl (PE.andN (m:=now-1) (n:=(Z07 r.d.h.gaps m c)) rfl rfl rfl (by omega) (by have:=Z00 r.d.h.gaps m c;have:2 ^ r.d.h.gaps.length≤2 ^ 10:=Nat.pow_le_pow_right (by decide) hgl;have e9:(2:Nat) ^ 10=1024:=rfl;omega)) rfl (pur 1 rfl ?_)
 have hlt:(now-1)&&&(Z07 r.d.h.gaps m c)<now:=Nat.lt_of_le_of_lt Nat.and_le_left (by omega)
 exact Zf ⟨((now-1)&&&(Z07 r.d.h.gaps m c),n,l,lost,kv3),by dsimp only;rw [Nat.and_assoc,Nat.and_self],hbi.no hsub h0 hno,hme⟩ hlt (fun w h=>(((((h.del b12).del b11).pull b3).pull b4).pull b7))
 obtain rfl:lb3=false:=hc3
 have hlb:=(hb3.resolve_left (fun h=>by cases h.1)).2.2.1
 have htk:Cnd r.d.h.gaps r.K r.sp m c now ((cnt r.d.h.gaps.length now)+n3):=⟨hsu,by omega,hk0,.inr ⟨hne,n3,rfl,hlb⟩⟩
 refine Z1 (sqt 4 rfl (pur 1 rfl (sp rfl (PE.fA Z0X rfl) rfl (spL rfl rfl (lh sc3 rfl rfl) rfl (pur 1 rfl ?_)))))
 refine Z2 rfl ?_ ?_<;>intro hc4<;>try simp only [cS] at hc4
 have hlt9:(cnt r.d.h.gaps.length now)+n3<n:=by omega
 refine sqr 4 rfl (pur 2 rfl (sp rfl (PE.build (out:=[_,_,_]) Zbh Z4x rfl rfl) rfl ?_))
 refine ZH (l':=svl ((cnt r.d.h.gaps.length now)+n3) (now) (false)) rfl rfl rfl Z0x rfl rfl rfl rfl (nl rfl) ?_
 refine sqt 2 rfl (pur 2 rfl ?_)
 refine Z2 rfl ?_ ?_<;>intro hc5<;>try simp only [cS] at hc5
 have hz0:now=0:=by omega
 refine Z7 (ZX (by decide) (Z9 (Z9 (Zk (Z0 ?_)))))
 refine Zb [0,1,3,7,0,0,63] (tks 0 3 (.ld 3 (.ld 4 (.ld 5 (.big 6 .done))))) Zo (by kernel_rfl) ?_
 refine Zl 1 rfl (tk rfl (PE.nilCheck rfl) rfl (tk rfl (PE.fA Z09 rfl) rfl (ld rfl rfl (lfB (sz:=4) Z20 rfl) rfl (ld rfl rfl (lhA (plc m c) Z0F rfl rfl rfl) rfl (ld rfl rfl (lhA (svl ((cnt r.d.h.gaps.length now)+n3) (now) (false)) ZI rfl rfl rfl) rfl ?_)))))
 refine mpu kv3 [(m:Int),(c:Int)] (v:=svv ((cnt r.d.h.gaps.length now)+n3) (now) (false)) rfl Z0M (KeyT.of Z0J Z0N) rfl rfl rfl rfl hme.len ?_
 refine bgT (sqt 2 rfl (spL rfl rfl (lhA (svl ((cnt r.d.h.gaps.length now)+n3) (now) (false)) ZI rfl rfl rfl) rfl ?_))
 refine ZH (l':=svl ((cnt r.d.h.gaps.length now)+n3) (now) (false)) rfl rfl rfl Z0x rfl rfl rfl rfl (nl rfl) ?_
 refine Z4 ?_
 have hfin:Z4y r.d.h.gaps r.K r.sp m c ((cnt r.d.h.gaps.length now)+n3) (now) (false):=by subst hz0;exact BI.endTake hgl hbi htk hlt9
 exact Zg (vs:=[_]) rfl (.cons (RV.cell rfl (lhA (svl ((cnt r.d.h.gaps.length now)+n3) (now) (false)) ZI rfl rfl rfl)) .nil) rfl ⟨_,_,_,_,rfl,hfin,hme.put hfin,rfl,rfl⟩ (fun w h=>((((((((h.del b12).del b11).pull b3).pull b4).pull b7)).del b7).del b4).del b3)
 have h0:now≠0:=by omega
 refine Z1 (sqr 5 rfl (pur 1 rfl (sp rfl (PE.sub rfl rfl (by omega)) rfl (pur 1 rfl ?_))))
 rw [show (now:Int)-1=((now-1:Nat):Int) from by omega]
 refine sp rfl (PE.andN (m:=now-1) (n:=(Z07 r.d.h.gaps m c)) rfl rfl rfl (by omega) (by have:=Z00 r.d.h.gaps m c;have:2 ^ r.d.h.gaps.length≤2 ^ 10:=Nat.pow_le_pow_right (by decide) hgl;have e9:(2:Nat) ^ 10=1024:=rfl;omega)) rfl (pur 1 rfl ?_)
 have hlt:(now-1)&&&(Z07 r.d.h.gaps m c)<now:=Nat.lt_of_le_of_lt Nat.and_le_left (by omega)
 exact Zf ⟨((now-1)&&&(Z07 r.d.h.gaps m c),(cnt r.d.h.gaps.length now)+n3,now,false,kv3),by dsimp only;rw [Nat.and_assoc,Nat.and_self],hbi.take hsub h0 htk hlt9,hme⟩ hlt (fun w h=>(((((h.del b12).del b11).pull b3).pull b4).pull b7))
 have hno:∀ n9,Cnd r.d.h.gaps r.K r.sp m c now n9→n≤n9:=fun n9 hcn=>by rw [hcn.unique htk];omega
 refine Z1 (sqt 2 rfl (pur 2 rfl ?_))
 refine Z2 rfl ?_ ?_<;>intro hc5<;>try simp only [cS] at hc5
 have hz0:now=0:=by omega
 refine Z7 (ZX (by decide) (Z9 (Z9 (Zk (Z0 ?_)))))
 refine Zb [0,1,3,7,0,0,63] (tks 0 3 (.ld 3 (.ld 4 (.ld 5 (.big 6 .done))))) Zo (by kernel_rfl) ?_
 refine Zl 1 rfl (tk rfl (PE.nilCheck rfl) rfl (tk rfl (PE.fA Z09 rfl) rfl (ld rfl rfl (lfB (sz:=4) Z20 rfl) rfl (ld rfl rfl (lhA (plc m c) Z0F rfl rfl rfl) rfl (ld rfl rfl (lhA (svl (n) (l) (lost)) ZI rfl rfl rfl) rfl ?_)))))
 refine mpu kv3 [(m:Int),(c:Int)] (v:=svv (n) (l) (lost)) rfl Z0M (KeyT.of Z0J Z0N) rfl rfl rfl rfl hme.len ?_
 refine bgT (sqt 2 rfl (spL rfl rfl (lhA (svl (n) (l) (lost)) ZI rfl rfl rfl) rfl ?_))
 refine ZH (l':=svl (n) (l) (lost)) rfl rfl rfl Z0x rfl rfl rfl rfl (nl rfl) ?_
 refine Z4 ?_
 have hfin:Z4y r.d.h.gaps r.K r.sp m c (n) (l) (lost):=by subst hz0;exact BI.endNo hgl hbi hno
 exact Zg (vs:=[_]) rfl (.cons (RV.cell rfl (lhA (svl (n) (l) (lost)) ZI rfl rfl rfl)) .nil) rfl ⟨_,_,_,_,rfl,hfin,hme.put hfin,rfl,rfl⟩ (fun w h=>((((((((h.del b12).del b11).pull b3).pull b4).pull b7)).del b7).del b4).del b3)
 have h0:now≠0:=by omega
 refine Z1 (sqr 5 rfl (pur 1 rfl (sp rfl (PE.sub rfl rfl (by omega)) rfl (pur 1 rfl ?_))))
 rw [show (now:Int)-1=((now-1:Nat):Int) from by omega]
 refine sp rfl (PE.andN (m:=now-1) (n:=(Z07 r.d.h.gaps m c)) rfl rfl rfl (by omega) (by have:=Z00 r.d.h.gaps m c;have:2 ^ r.d.h.gaps.length≤2 ^ 10:=Nat.pow_le_pow_right (by decide) hgl;have e9:(2:Nat) ^ 10=1024:=rfl;omega)) rfl (pur 1 rfl ?_)
 have hlt:(now-1)&&&(Z07 r.d.h.gaps m c)<now:=Nat.lt_of_le_of_lt Nat.and_le_left (by omega)
 exact Zf ⟨((now-1)&&&(Z07 r.d.h.gaps m c),n,l,lost,kv3),by dsimp only;rw [Nat.and_assoc,Nat.and_self],hbi.no hsub h0 hno,hme⟩ hlt (fun w h=>(((((h.del b12).del b11).pull b3).pull b4).pull b7))
 have heq:(spr r.d.h.gaps (c|||now) m)=m:=by omega
 have htk:Cnd r.d.h.gaps r.K r.sp m c now (cnt r.d.h.gaps.length now):=⟨hsu,by omega,hk0,.inl ⟨heq,rfl⟩⟩
 have hlt9:(cnt r.d.h.gaps.length now)<n:=by omega
 refine Z1 (sqt 4 rfl (pur 1 rfl (sp rfl (PE.fA Z0X rfl) rfl (spL rfl rfl (lh sc3 rfl rfl) rfl (pur 1 rfl ?_)))))
 refine Z2 rfl ?_ ?_<;>intro hc4
 refine sqr 4 rfl (pur 2 rfl (sp rfl (PE.build (out:=[_,_,_]) Zbh Z4x rfl rfl) rfl ?_))
 refine ZH (l':=svl ((cnt r.d.h.gaps.length now)) (now) (false)) rfl rfl rfl Z0x rfl rfl rfl rfl (nl rfl) ?_
 refine sqt 2 rfl (pur 2 rfl ?_)
 refine Z2 rfl ?_ ?_<;>intro hc5<;>try simp only [cS] at hc5
 have hz0:now=0:=by omega
 refine Z7 (ZX (by decide) (Z9 (Z9 (Zk (Z0 ?_)))))
 refine Zb [0,1,3,7,0,0,63] (tks 0 3 (.ld 3 (.ld 4 (.ld 5 (.big 6 .done))))) Zo (by kernel_rfl) ?_
 refine Zl 1 rfl (tk rfl (PE.nilCheck rfl) rfl (tk rfl (PE.fA Z09 rfl) rfl (ld rfl rfl (lfB (sz:=4) Z20 rfl) rfl (ld rfl rfl (lhA (plc m c) Z0F rfl rfl rfl) rfl (ld rfl rfl (lhA (svl ((cnt r.d.h.gaps.length now)) (now) (false)) ZI rfl rfl rfl) rfl ?_)))))
 refine mpu kv1 [(m:Int),(c:Int)] (v:=svv ((cnt r.d.h.gaps.length now)) (now) (false)) rfl Z0M (KeyT.of Z0J Z0N) rfl rfl rfl rfl hme.len ?_
 refine bgT (sqt 2 rfl (spL rfl rfl (lhA (svl ((cnt r.d.h.gaps.length now)) (now) (false)) ZI rfl rfl rfl) rfl ?_))
 refine ZH (l':=svl ((cnt r.d.h.gaps.length now)) (now) (false)) rfl rfl rfl Z0x rfl rfl rfl rfl (nl rfl) ?_
 refine Z4 ?_
 have hfin:Z4y r.d.h.gaps r.K r.sp m c ((cnt r.d.h.gaps.length now)) (now) (false):=by subst hz0;exact BI.endTake hgl hbi htk hlt9
 exact Zg (vs:=[_]) rfl (.cons (RV.cell rfl (lhA (svl ((cnt r.d.h.gaps.length now)) (now) (false)) ZI rfl rfl rfl)) .nil) rfl ⟨_,_,_,_,rfl,hfin,hme.put hfin,rfl,rfl⟩ (fun w h=>(((h.del b11).del b7).del b4).del b3)
 have h0:now≠0:=by omega
 refine Z1 (sqr 5 rfl (pur 1 rfl (sp rfl (PE.sub rfl rfl (by omega)) rfl (pur 1 rfl ?_))))
 rw [show (now:Int)-1=((now-1:Nat):Int) from by omega]
 refine sp rfl (PE.andN (m:=now-1) (n:=(Z07 r.d.h.gaps m c)) rfl rfl rfl (by omega) (by have:=Z00 r.d.h.gaps m c;have:2 ^ r.d.h.gaps.length≤2 ^ 10:=Nat.pow_le_pow_right (by decide) hgl;have e9:(2:Nat) ^ 10=1024:=rfl;omega)) rfl (pur 1 rfl ?_)
 have hlt:(now-1)&&&(Z07 r.d.h.gaps m c)<now:=Nat.lt_of_le_of_lt Nat.and_le_left (by omega)
 exact Zf ⟨((now-1)&&&(Z07 r.d.h.gaps m c),(cnt r.d.h.gaps.length now),now,false,kv1),by dsimp only;rw [Nat.and_assoc,Nat.and_self],hbi.take hsub h0 htk hlt9,hme⟩ hlt (fun w h=>h.del b11)
 exact absurd hc4 (by simp;omega)
 have hno:∀ n9,Cnd r.d.h.gaps r.K r.sp m c now n9→n≤n9:=fun n9 hcn=>by
   obtain ⟨p1,p2,p3,p4⟩:=hcn
   exact absurd p3 (by omega)
 refine Z1 (sqt 2 rfl (pur 2 rfl ?_))
 refine Z2 rfl ?_ ?_<;>intro hc5<;>try simp only [cS] at hc5
 have hz0:now=0:=by omega
 refine Z7 (ZX (by decide) (Z9 (Z9 (Zk (Z0 ?_)))))
 refine Zb [0,1,3,7,0,0,63] (tks 0 3 (.ld 3 (.ld 4 (.ld 5 (.big 6 .done))))) Zo (by kernel_rfl) ?_
 refine Zl 1 rfl (tk rfl (PE.nilCheck rfl) rfl (tk rfl (PE.fA Z09 rfl) rfl (ld rfl rfl (lfB (sz:=4) Z20 rfl) rfl (ld rfl rfl (lhA (plc m c) Z0F rfl rfl rfl) rfl (ld rfl rfl (lhA (svl (n) (l) (lost)) ZI rfl rfl rfl) rfl ?_)))))
 refine mpu kv1 [(m:Int),(c:Int)] (v:=svv (n) (l) (lost)) rfl Z0M (KeyT.of Z0J Z0N) rfl rfl rfl rfl hme.len ?_
 refine bgT (sqt 2 rfl (spL rfl rfl (lhA (svl (n) (l) (lost)) ZI rfl rfl rfl) rfl ?_))
 refine ZH (l':=svl (n) (l) (lost)) rfl rfl rfl Z0x rfl rfl rfl rfl (nl rfl) ?_
 refine Z4 ?_
 have hfin:Z4y r.d.h.gaps r.K r.sp m c (n) (l) (lost):=by subst hz0;exact BI.endNo hgl hbi hno
 exact Zg (vs:=[_]) rfl (.cons (RV.cell rfl (lhA (svl (n) (l) (lost)) ZI rfl rfl rfl)) .nil) rfl ⟨_,_,_,_,rfl,hfin,hme.put hfin,rfl,rfl⟩ (fun w h=>(((h.del b11).del b7).del b4).del b3)
 have h0:now≠0:=by omega
 refine Z1 (sqr 5 rfl (pur 1 rfl (sp rfl (PE.sub rfl rfl (by omega)) rfl (pur 1 rfl ?_))))
 rw [show (now:Int)-1=((now-1:Nat):Int) from by omega]
 refine sp rfl (PE.andN (m:=now-1) (n:=(Z07 r.d.h.gaps m c)) rfl rfl rfl (by omega) (by have:=Z00 r.d.h.gaps m c;have:2 ^ r.d.h.gaps.length≤2 ^ 10:=Nat.pow_le_pow_right (by decide) hgl;have e9:(2:Nat) ^ 10=1024:=rfl;omega)) rfl (pur 1 rfl ?_)
 have hlt:(now-1)&&&(Z07 r.d.h.gaps m c)<now:=Nat.lt_of_le_of_lt Nat.and_le_left (by omega)
 exact Zf ⟨((now-1)&&&(Z07 r.d.h.gaps m c),n,l,lost,kv1),by dsimp only;rw [Nat.and_assoc,Nat.and_self],hbi.no hsub h0 hno,hme⟩ hlt (fun w h=>h.del b11)
 try simp only [cS] at g62
 have hno:∀ n9,Cnd r.d.h.gaps r.K r.sp m c now n9→n≤n9:=fun n9 hcn=>by
   obtain ⟨p1,p2,p3,p4⟩:=hcn
   rcases p4 with ⟨_,p5⟩ | ⟨_,k,p5,_⟩<;>omega
 refine Zl 1 rfl ?_
 refine ldN rfl rfl rfl rfl rfl rfl rfl rfl ?_
 refine Zl 3 rfl ?_
 refine ldN rfl rfl rfl rfl rfl rfl rfl rfl ?_
 refine Zl 3 rfl ?_
 refine Zq rfl ?_
 refine Z1 (sqt 2 rfl (pur 2 rfl ?_))
 refine Z2 rfl ?_ ?_<;>intro hc5<;>try simp only [cS] at hc5
 have hz0:now=0:=by omega
 refine Z7 (ZX (by decide) (Z9 (Z9 (Zk (Z0 ?_)))))
 refine Zb [0,1,3,7,0,0,63] (tks 0 3 (.ld 3 (.ld 4 (.ld 5 (.big 6 .done))))) Zo (by kernel_rfl) ?_
 refine Zl 1 rfl (tk rfl (PE.nilCheck rfl) rfl (tk rfl (PE.fA Z09 rfl) rfl (ld rfl rfl (lfB (sz:=4) Z20 rfl) rfl (ld rfl rfl (lhA (plc m c) Z0F rfl rfl rfl) rfl (ld rfl rfl (lhA (svl (n) (l) (lost)) ZI rfl rfl rfl) rfl ?_)))))
 refine mpu kv1 [(m:Int),(c:Int)] (v:=svv (n) (l) (lost)) rfl Z0M (KeyT.of Z0J Z0N) rfl rfl rfl rfl hme.len ?_
 refine bgT (sqt 2 rfl (spL rfl rfl (lhA (svl (n) (l) (lost)) ZI rfl rfl rfl) rfl ?_))
 refine ZH (l':=svl (n) (l) (lost)) rfl rfl rfl Z0x rfl rfl rfl rfl (nl rfl) ?_
 refine Z4 ?_
 have hfin:Z4y r.d.h.gaps r.K r.sp m c (n) (l) (lost):=by subst hz0;exact BI.endNo hgl hbi hno
 exact Zg (vs:=[_]) rfl (.cons (RV.cell rfl (lhA (svl (n) (l) (lost)) ZI rfl rfl rfl)) .nil) rfl ⟨_,_,_,_,rfl,hfin,hme.put hfin,rfl,rfl⟩ (fun w h=>(((h.del b11).del b7).del b4).del b3)
 have h0:now≠0:=by omega
 refine Z1 (sqr 5 rfl (pur 1 rfl (sp rfl (PE.sub rfl rfl (by omega)) rfl (pur 1 rfl ?_))))
 rw [show (now:Int)-1=((now-1:Nat):Int) from by omega]
 refine sp rfl (PE.andN (m:=now-1) (n:=(Z07 r.d.h.gaps m c)) rfl rfl rfl (by omega) (by have:=Z00 r.d.h.gaps m c;have:2 ^ r.d.h.gaps.length≤2 ^ 10:=Nat.pow_le_pow_right (by decide) hgl;have e9:(2:Nat) ^ 10=1024:=rfl;omega)) rfl (pur 1 rfl ?_)
 have hlt:(now-1)&&&(Z07 r.d.h.gaps m c)<now:=Nat.lt_of_le_of_lt Nat.and_le_left (by omega)
 exact Zf ⟨((now-1)&&&(Z07 r.d.h.gaps m c),n,l,lost,kv1),by dsimp only;rw [Nat.and_assoc,Nat.and_self],hbi.no hsub h0 hno,hme⟩ hlt (fun w h=>h.del b11)
 try simp only [cS] at g56
 have hno:∀ n9,Cnd r.d.h.gaps r.K r.sp m c now n9→n≤n9:=fun n9 hcn=>by
   obtain ⟨p1,p2,p3,p4⟩:=hcn
   omega
 refine Zl 2 rfl ?_
 refine ldN rfl rfl rfl rfl rfl rfl rfl rfl ?_
 refine Zl 4 rfl ?_
 refine ldN rfl rfl rfl rfl rfl rfl rfl rfl ?_
 refine Zl 3 rfl ?_
 refine ldN rfl rfl rfl rfl rfl rfl rfl rfl ?_
 refine Zl 3 rfl ?_
 refine Zq rfl ?_
 refine Z1 (sqt 2 rfl (pur 2 rfl ?_))
 refine Z2 rfl ?_ ?_<;>intro hc5<;>try simp only [cS] at hc5
 have hz0:now=0:=by omega
 refine Z7 (ZX (by decide) (Z9 (Z9 (Zk (Z0 ?_)))))
 refine Zb [0,1,3,7,0,0,63] (tks 0 3 (.ld 3 (.ld 4 (.ld 5 (.big 6 .done))))) Zo (by kernel_rfl) ?_
 refine Zl 1 rfl (tk rfl (PE.nilCheck rfl) rfl (tk rfl (PE.fA Z09 rfl) rfl (ld rfl rfl (lfB (sz:=4) Z20 rfl) rfl (ld rfl rfl (lhA (plc m c) Z0F rfl rfl rfl) rfl (ld rfl rfl (lhA (svl (n) (l) (lost)) ZI rfl rfl rfl) rfl ?_)))))
 refine mpu kv1 [(m:Int),(c:Int)] (v:=svv (n) (l) (lost)) rfl Z0M (KeyT.of Z0J Z0N) rfl rfl rfl rfl hme.len ?_
 refine bgT (sqt 2 rfl (spL rfl rfl (lhA (svl (n) (l) (lost)) ZI rfl rfl rfl) rfl ?_))
 refine ZH (l':=svl (n) (l) (lost)) rfl rfl rfl Z0x rfl rfl rfl rfl (nl rfl) ?_
 refine Z4 ?_
 have hfin:Z4y r.d.h.gaps r.K r.sp m c (n) (l) (lost):=by subst hz0;exact BI.endNo hgl hbi hno
 exact Zg (vs:=[_]) rfl (.cons (RV.cell rfl (lhA (svl (n) (l) (lost)) ZI rfl rfl rfl)) .nil) rfl ⟨_,_,_,_,rfl,hfin,hme.put hfin,rfl,rfl⟩ (fun w h=>(((h.del b11).del b7).del b4).del b3)
 have h0:now≠0:=by omega
 refine Z1 (sqr 5 rfl (pur 1 rfl (sp rfl (PE.sub rfl rfl (by omega)) rfl (pur 1 rfl ?_))))
 rw [show (now:Int)-1=((now-1:Nat):Int) from by omega]
 refine sp rfl (PE.andN (m:=now-1) (n:=(Z07 r.d.h.gaps m c)) rfl rfl rfl (by omega) (by have:=Z00 r.d.h.gaps m c;have:2 ^ r.d.h.gaps.length≤2 ^ 10:=Nat.pow_le_pow_right (by decide) hgl;have e9:(2:Nat) ^ 10=1024:=rfl;omega)) rfl (pur 1 rfl ?_)
 have hlt:(now-1)&&&(Z07 r.d.h.gaps m c)<now:=Nat.lt_of_le_of_lt Nat.and_le_left (by omega)
 exact Zf ⟨((now-1)&&&(Z07 r.d.h.gaps m c),n,l,lost,kv1),by dsimp only;rw [Nat.and_assoc,Nat.and_self],hbi.no hsub h0 hno,hme⟩ hlt (fun w h=>h.del b11)
 exact Z3f
theorem Z9M (r:Rc) (hd:r.d.Ok) (hK:r.K<2 ^ 7) (hsp:r.sp≤1000):∀ q,Zj2 r q
 | 0=>Z3O r hd hK hsp 0 (fun _ h=>by cases h)
 | q + 1 => Z3O r hd hK hsp (q + 1) (fun q9 h => by
     obtain rfl:q=q9:=Nat.succ.inj h
     exact Z9M r hd hK hsp q)
theorem ZdA:cal Tryz.prog 215=true:=by kernel_rfl
theorem Zk4:ZP Tryz.prog 322=some [(0,1),(1,1),(2,1),(3,1)]:=by kernel_rfl
theorem Zkp:Zr Tryz.prog 322=some ([.pointer none,.int .i64 0,.int .i64 0,.map none]):=by kernel_rfl
def Hse.rcE (h:Hse) (fr to_:List Int) (sp:Int):Int:=bif decide (h.botE fr to_≠0) then h.botE fr to_ else bif !inB sp 0 10 then 3 else 0
abbrev rcD (h:Hse) (ag as_:Option Addr) (cg cs:Nat) (to_:List Int) (sp:Int) (bd br mm:Nat):Rc:=⟨dkA h ag as_ cg cs bd,br,msk to_,sp.toNat,mm⟩
set_option maxHeartbeats 400000 in
theorem ZeN (h:Hse) (ag as_:Option Addr) (cg cs:Nat) (hlg:h.gaps.length≤9223372036854775807) (hls:h.sights.length≤9223372036854775807) (fr to_:List Int) (af at_:Option Addr) (cf ct:Nat) (hlf:fr.length≤1000000) (hlt:to_.length≤1000000) (hfc:fr.length≤cf) (htc:to_.length≤ct) (spd:Int) (H:Z8) (R:Z5) [hG:MemRows ag 2 (grows h.gaps) R] [hS:MemRows as_ 3 (srows h.sights) R] [hF:MemRows af 1 (irows fr) R] [hT:MemRows at_ 1 (irows to_) R] :
    Fn Tryz.prog 214 [h.v (h.sg ag cg) (h.ss as_ cs),.slice af fr.length cf,.slice at_ to_.length ct,.int .i64 spd] H R (fun v H' R'=>(h.rcE fr to_ spd≠0∧v = .tuple #[.pointer none,.int .i64 (h.rcE fr to_ spd)]∧H'=H∧R'=R)∨(h.rcE fr to_ spd=0∧∃ bd br mm,v = .tuple #[.pointer (some ⟨br,0,none⟩),.int .i64 0]∧H'=(mm,Zz true [])::H∧R'=RowsA (some ⟨br,0,none⟩) 4 [(rcD h ag as_ cg cs to_ spd bd br mm).row]::RowsA (some ⟨bd,0,none⟩) 4 [(dkA h ag as_ cg cs bd).row]::R)):=by
 refine Ze Tryz.func214 rfl Tryz.ntmps214 rfl ?_
 refine sqt 3 rfl (bx rfl rfl rfl (fun b4=>pur 2 rfl (Z0 (sqt 5 rfl (spL rfl rfl (lhA (htl h (h.sg ag cg) (h.ss as_ cs)) ZbY rfl rfl rfl) rfl (pur 2 rfl ?_))))))
 refine clV rfl Zhx rfl rfl (Zdm h ag as_ cg cs hlg hls fr to_ af at_ cf ct (by omega) (by omega) hfc htc _ _) ?_
 refine pur 1 rfl (sqt 2 rfl (pur 2 rfl ?_))
 refine Z2 rfl ?_ ?_<;>intro hc0
 have hbe:h.botE fr to_≠0:=of_decide_eq_true hc0
 have e:h.rcE fr to_ spd=h.botE fr to_:=by unfold Hse.rcE;rw [dT hbe];rfl
 refine sqt 3 rfl (pur 3 rfl (Z4 ?_))
 exact rtB rfl rfl rfl rfl (.inl ⟨by rw [e];exact hbe,by rw [e]<;>rfl,rfl,rfl⟩) (fun w h9=>h9.del b4)
 have hbe:h.botE fr to_=0:=Classical.byContradiction fun e=>by rw [decide_eq_true e] at hc0;cases hc0
 have hb:=Z7U hbe
 obtain ⟨q1,q2,q3,q4,q5,q6⟩:=Z2o hb
 refine Z1 (Z0 (sqt 3 rfl (pur 1 rfl ?_)))
 refine clV rfl Z80 rfl rfl (Z71 _ _ _ _ _) ?_
 refine pur 1 rfl ?_
 refine Z2 rfl ?_ ?_<;>intro hc1
 have hin:(!inB spd 0 10)=true:=hc1
 have e:h.rcE fr to_ spd=3:=by unfold Hse.rcE;rw [hbe,hin];rfl
 refine sqt 2 rfl (pur 2 rfl (Z4 ?_))
 exact rtB rfl rfl rfl rfl (.inl ⟨by rw [e];decide,by rw [e]<;>rfl,rfl,rfl⟩) (fun w h9=>h9.del b4)
 have hin:(!inB spd 0 10)=false:=hc1
 have e:h.rcE fr to_ spd=0:=by unfold Hse.rcE;rw [hbe,hin];rfl
 have hsp:0≤spd∧spd≤10:=by simpa [inB] using hin
 refine Z1 (sqt 10 rfl (spL rfl rfl (lhA (htl h (h.sg ag cg) (h.ss as_ cs)) ZbY rfl rfl rfl) rfl ?_))
 refine cl rfl Zhw rfl rfl (Zgp h ag as_ cg cs _ _) ?_
 rintro _ _ _ ⟨bd,rfl,rfl,rfl⟩
 refine pur 1 rfl ?_
 refine clV rfl ZdA rfl rfl (Za9 to_ (fun k hk=>by have:=q2 k hk;omega) hlt at_ ct _ _) ?_
 refine pur 1 rfl ?_
 refine mkm rfl rfl true (fun mm=>?_)
 refine sp rfl (PE.build (out:=[_,_,_,_]) Zk4 Zkp rfl rfl) rfl (bx rfl rfl rfl (fun b28=>pur 2 rfl (Z4 ?_)))
 refine Sy.heap (fun w h9=>St.rows (sz:=4) (rows:=[(rcD h ag as_ cg cs to_ spd bd b28 mm).row]) (rest:=[]) (by have h8:=h9.pull b28;show St ((b28,cel _ [.pointer (some ⟨bd,0,none⟩),.int .i64 ((msk to_:Nat):Int),.int .i64 ((spd.toNat:Nat):Int),.map (some mm)])::_) _ w;rw [show ((spd.toNat:Nat):Int)=spd by omega];exact h8) (by simp [Rc.row])) ?_
 exact rtB rfl rfl rfl rfl (.inr ⟨e,bd,b28,mm,rfl,rfl,rfl⟩) (fun w h9=>h9.del b4)
theorem Zgj:apT Tryz.prog 44=some (23,1,24):=by kernel_rfl
theorem Zh2:cal Tryz.prog 214=true:=by kernel_rfl
theorem Z7j:ZY Tryz.prog 326 1=some 1:=by kernel_rfl
structure PL where
 a:Option Addr
 c:Nat
 l:List Int
def plrow (x:PL):List Value:=[.slice x.a x.l.length x.c]
def plrows (l:List PL):List (List Value):=l.map plrow
def Inn (l:List PL) (w:World):Prop:=∀ x∈l,RowsA x.a 1 (irows x.l) w
def lls (l:List PL):List (List Int):=l.map (·.l)
theorem plrows_len (l:List PL):(plrows l).length=l.length:=List.length_map _
theorem pl_get {l:List PL} {k:Nat} {x:PL} (h:l[k]?=some x):(plrows l)[k]?=some (plrow x):=by simp [plrows,h]
theorem lls_get {l:List PL} {k:Nat} {x:PL} (h:l[k]?=some x):(lls l)[k]?=some x.l:=by simp [lls,h]
theorem lls_len (l:List PL):(lls l).length=l.length:=List.length_map _
theorem St.inn {H:Z8} {R:Z5} {w:World} {l:List PL} {x:PL} [m:MemF (Inn l) R] (h:St H R w) (hx:x∈l):St H (RowsA x.a 1 (irows x.l)::R) w :=
 h.also fun _ hw=>hw _ m.mem x hx
theorem PE.fieldV {P:Program} {L:Zm} {d:Option Tmp} {ty:TypeId} {pos:String} {af:Array Edge} {gg:Option (Nat×Bool)} {T k e o:Nat} {x:Operand} {vs:List Value} {v:Value} (hF:fTy P T k=some (e,o)) (hE:Z0h P e=true) (hx:ev L x=some (.agg vs.toArray)) (hv:vs[o]?=some v) :
   PE P L ⟨d,.field T x k,ty,pos,af,gg⟩ v:=fun ρ hρ w=>by
 unfold fTy at hF
 split at hF
 · rename_i fs hu
   obtain ⟨f,hf,he⟩:=Option.map_eq_some_iff.1 hF
   cases he
   simp [execOp,hρ _ _ hx,Instr.field,Sem.run_bind,Sem.run_pure,run_underlying hu,Result.andThen,hf,asAgg,part,Z0s hE,hv]
 · cases hF
theorem St.innSnoc {H:Z8} {R:Z5} {w:World} {l:List PL} (x:PL) [m:MemF (Inn l) R] [n:MemRows x.a 1 (irows x.l) R] (h:St H R w):St H (Inn (l++[x])::R) w:=h.also fun w' hw y hy=>by
 rcases List.mem_append.1 hy with h1 | h1
 · exact hw _ m.mem y h1
 · rw [List.mem_singleton.1 h1];exact hw _ n.mem
theorem St.inn0 {H:Z8} {R:Z5} {w:World} (h:St H R w):St H (Inn []::R) w:=h.also fun w' hw y hy=>by cases hy
theorem Z84 {gs:List Gp} {c m:Nat} (hw:Wth gs 7) (hm:m<2 ^ 7) (h:spr gs c m≠m):cnt 7 m<cnt 7 (spr gs c m):=by
 have hex:∃ k,(spr gs c m).testBit k=true∧m.testBit k=false:=Classical.byContradiction fun hn=>h (Z0r fun k=>by
   cases hb:m.testBit k with
   | true=>exact Z0V hb
   | false =>
     cases hb2:(spr gs c m).testBit k with
     | false=>rfl
     | true=>exact absurd ⟨k,hb2,hb⟩ hn)
 obtain ⟨k,h3,h4⟩:=hex
 unfold cnt
 exact Z3Y (fun x _ hx=>Z0V hx) ⟨k,List.mem_range.2 (Z1s (Z4Y hw hm) h3),h3,h4⟩
theorem Z1V (l:List PL) (x:PL):plrows l++[plrow x]=plrows (l++[x]):=by simp [plrows]
theorem Z5x (l:List PL) (x:PL):lls (l++[x])=lls l++[x.l]:=by simp [lls]
def Zj9 (h:Hse) (fr to_:List Int) (spd:Int) (H:Z8) (R:Z5):Value→Z8→Z5→Prop:=fun v H' R'=>H'=H∧((h.rcE fr to_ spd≠0∧v = .tuple #[.slice none 0 0,.int .i64 (h.rcE fr to_ spd)]∧R'=R) ∨
 (h.rcE fr to_ spd=0∧(∀ n,¬ Pl h.gaps (msk to_) spd.toNat (msk fr) 0 n)∧v = .tuple #[.slice none 0 0,.int .i64 6]∧R'=R) ∨
 (h.rcE fr to_ spd=0∧∃ (ls:List Nat) (pl:List PL) (a:Option Addr) (c:Nat),lls pl=ls.map Z2E∧pl.length≤8∧pl.length≤c∧(∀ l∈ls,l<2 ^ h.gaps.length)∧RunP h.gaps (msk to_) spd.toNat (msk fr) 0 ls∧Lst (Pl h.gaps (msk to_) spd.toNat (msk fr) 0) (Zc1 h.gaps ls)∧v = .tuple #[.slice a pl.length c,.int .i64 0]∧R'=RowsA a 1 (plrows pl)::Inn pl::R))
theorem Zis {h:Hse} {fr to_:List Int} {spd:Int} (he:h.rcE fr to_ spd=0):h.Bot fr to_∧0≤spd∧spd≤10:=by
 unfold Hse.rcE at he
 by_cases h1:h.botE fr to_=0
 · rw [decide_eq_false (fun e=>e h1),cond_false] at he
   cases h2:inB spd 0 10 with
   | false=>rw [h2] at he;cases he
   | true=>exact ⟨Z7U h1,by simpa [inB] using h2⟩
 · rw [decide_eq_true h1,cond_true] at he;exact absurd he h1
theorem Seg.lt {gs:List Gp} {K sp:Nat} (hw:Wth gs 7):∀ {ls:List Nat} {m c m' c':Nat},Seg gs K sp m c ls m' c'→m<2 ^ 7→c<2 ^ gs.length→m'<2 ^ 7∧c'<2 ^ gs.length
 | [],m,c,m',c',⟨h1,h2⟩,h3,h4=>by subst h1;subst h2;exact ⟨h3,h4⟩
 | l::ls,m,c,m',c',⟨h1,h2⟩,h3,h4=>Seg.lt hw h2 (Z4Y hw h3) (Nat.or_lt_two_pow h4 h1.1)
set_option maxHeartbeats 1000000 in
theorem Zgo (h:Hse) (ag as_:Option Addr) (cg cs:Nat) (hlg:h.gaps.length≤9223372036854775807) (hls:h.sights.length≤9223372036854775807) (fr to_:List Int) (af at_:Option Addr) (cf ct:Nat) (hlf:fr.length≤1000000) (hlt:to_.length≤1000000) (hfc:fr.length≤cf) (htc:to_.length≤ct) (spd:Int) (H:Z8) (R:Z5) [hG:MemRows ag 2 (grows h.gaps) R] [hS:MemRows as_ 3 (srows h.sights) R] [hF:MemRows af 1 (irows fr) R] [hT:MemRows at_ 1 (irows to_) R] :
    Fn Tryz.prog 139 [h.v (h.sg ag cg) (h.ss as_ cs),.slice af fr.length cf,.slice at_ to_.length ct,.int .i64 spd] H R (Zj9 h fr to_ spd H R):=by
 refine Ze Tryz.func139 rfl Tryz.ntmps139 rfl ?_
 refine sqt 3 rfl (bx rfl rfl rfl (fun b4=>pur 2 rfl (sqt 10 rfl (spL rfl rfl (lhA (htl h (h.sg ag cg) (h.ss as_ cs)) ZbY rfl rfl rfl) rfl (pur 3 rfl ?_)))))
 refine cl rfl Zh2 rfl rfl (ZeN h ag as_ cg cs hlg hls fr to_ af at_ cf ct hlf hlt hfc htc spd _ _) ?_
 rintro _ _ R1 (⟨hre,rfl,rfl,hR1⟩ | ⟨hre,bd,br,mm,rfl,rfl,hR1⟩)<;>obtain rfl:=hR1.symm<;>clear hR1
 refine pur 5 rfl (Z0 (sqt 2 rfl (pur 2 rfl ?_)))
 refine Z2 rfl ?_ ?_<;>intro hc0
 refine sqt 3 rfl (pur 3 rfl (Z4 ?_))
 exact rtB rfl rfl rfl rfl ⟨rfl,.inl ⟨hre,rfl,rfl⟩⟩ (fun w h9=>h9.del b4)
 exact absurd hc0 (by simp [hre])
 refine pur 5 rfl (Z0 (sqt 2 rfl (pur 2 rfl ?_)))
 refine Z2 rfl ?_ ?_<;>intro hc0
 exact absurd hc0 (by simp)
 obtain ⟨hb,hs0,hs10⟩:=Zis hre
 obtain ⟨q1,q2,q3,q4,q5,q6⟩:=Z2o hb
 have hok:=hb.ok
 have hgl:=hok.gl
 have hw7:Wth h.gaps 7:=fun g hg=>by have:=hok.gaps g hg;have:=hok.bins;omega
 have hS7:msk fr<2 ^ 7:=Z3n fun x hx=>q1 x hx
 have hK7:msk to_<2 ^ 7:=Z3n fun x hx=>q2 x hx
 have htwo:Two h.gaps (msk fr) (msk to_):=⟨hw7,fun i g hg=>by have:=hok.gaps g (List.mem_of_getElem? hg);omega,hS7,hK7,fun v hv=>by
   cases hk:(msk to_).testBit v with
   | false=>rfl
   | true=>exact absurd ((ZN (fun k hk=>(q2 k hk).1) v).1 hk) (hb.no _ ((ZN (fun k hk=>(q1 k hk).1) v).1 hv))⟩
 have hK:(rcD h ag as_ cg cs to_ spd bd br mm).K<2 ^ 7:=hK7
 have hsp:(rcD h ag as_ cg cs to_ spd bd br mm).sp≤1000:=by show spd.toNat≤1000;omega
 refine Z1 (Z0 (sqt 8 rfl (pur 1 rfl (sp rfl (PE.nilCheck rfl) rfl (sp rfl (PE.fA Z7i rfl) rfl (spL rfl rfl (lfB (sz:=4) Z5H rfl) rfl (pur 2 rfl ?_)))))))
 refine cl rfl Zhy rfl rfl (Zgs (dkA h ag as_ cg cs bd) (Z4N h ag as_ cg cs hb.ok bd) fr to_ af at_ cf ct q1 q2 q3 (by omega) hb.no _ _) ?_
 rintro _ _ R1 ⟨fl,V,a,c,hfl,hfw,hsh,rfl,hcc,rfl,hR1⟩
 obtain rfl:=hR1.symm
 clear hR1
 have hop:=ZdL h ag as_ cg cs bd
 rw [hop] at hsh
 have hCM:ZeZ (dkA h ag as_ cg cs bd).h.gaps (dkA h ag as_ cg cs bd).cl (Z22 V)=cutM (Z22 V) h.gaps:=Z6h _ _
 rw [hCM] at hcc ⊢
 obtain ⟨hcut,hshut⟩:=Shn.cut htwo hsh hfw
 obtain ⟨CU,hCU⟩:∃ CU,CU=cutM (Z22 V) h.gaps:=⟨_,rfl⟩
 have hcl:=Zaj (Z22 V) h.gaps
 have hcn:=Z86 (Z22 V) h.gaps
 have hcm:=Zak hgl (Z22 V)
 rw [← hCU] at hcc hcut hshut hcl hcn hcm ⊢
 refine pur 1 rfl (sqt 4 rfl (pur 1 rfl (sp rfl (PE.lenSl ZD rfl) rfl (pur 2 rfl ?_))))
 refine Z2 rfl ?_ ?_<;>intro hc1<;>try simp only [cS] at hc1
 refine sqt 4 rfl (pur 1 rfl ?_)
 refine bsl (out:=[_]) rfl Ziy Zel rfl rfl rfl rfl rfl rfl (fun b40=>?_)
 refine pur 2 rfl (Z4 ?_)
 refine Sy.heap (fun w h9=>St.rows (sz:=1) (rows:=plrows [⟨a,c,CU⟩]) (rest:=[]) (h9.pull b40) (by simp [plrows,plrow])) ?_
 refine Sy.heap (fun w h9=>St.inn0 h9) ?_
 refine Sy.heap (fun w h9=>(show St _ (Inn [⟨a,c,CU⟩]::_) w from St.innSnoc (l:=[]) ⟨a,c,CU⟩ h9)) ?_
 exact rtB rfl rfl rfl rfl ⟨rfl,.inr (.inr ⟨hre,[msk CU],[⟨a,c,CU⟩],some ⟨b40,0,none⟩,1,by show [CU]=[Z2E (msk CU)];rw [hcm],by show 1≤8;decide,Nat.le_refl _,fun l hl=>by rw [List.mem_singleton.1 hl];exact hcl,RunP.once hshut hcl (by omega),by show Lst _ (cnt _ _+0);rw [hcn];exact Cut.plan hw7 hS7 hcut (by omega),rfl,rfl⟩)⟩ (fun w h9=>St.sub ((h9.del mm).del b4))
 refine Z1 (sqt 5 rfl (pur 1 rfl ?_))
 refine clV rfl ZdA rfl rfl (Za9 fr (fun k hk=>by have:=q1 k hk;omega) hlf af cf _ _) ?_
 refine sp rfl (PE.build (out:=[_,_]) Z7u Z3u rfl rfl) rfl (alc rfl Z3u rfl (fun b13=>?_))
 refine ZH (l':=plc (msk fr) (0)) rfl rfl rfl Z7g rfl rfl rfl rfl (nl rfl) ?_
 refine Z0 (sqt 4 rfl (pur 1 rfl ?_))
 refine ZG mm ?_
 refine spL rfl rfl (lhA (plc (msk fr) 0) Z0F rfl rfl rfl) rfl ?_
 refine cl rfl Z81 rfl rfl (Z9M (rcD h ag as_ cg cs to_ spd bd br mm) (Z4N h ag as_ cg cs hb.ok bd) hK hsp 128 (msk fr) (0) [] _ _ hS7 (by decide) (by omega) (Memo.nil _ _ _)) ?_
 rintro _ _ R1 ⟨n,l0,lost,kv,rfl,hbs,hme,rfl,hR1⟩
 obtain rfl:=hR1.symm
 clear hR1
 rw [show svv n l0 lost = .agg (svl n l0 lost).toArray from rfl]
 refine sp rfl (PE.fieldV (vs:=svl n l0 lost) (show fTy Tryz.prog 326 2=some (4,2) from by kernel_rfl) sc4 rfl rfl) rfl ?_
 refine Z2 rfl ?_ ?_<;>intro hc2
 obtain rfl:lost=true:=hc2
 have hnp:=(hbs.resolve_right (fun h=>by cases h.1)).2.2.2
 refine sqt 2 rfl (pur 2 rfl (Z4 ?_))
 exact rtB rfl rfl rfl rfl ⟨rfl,.inr (.inl ⟨hre,hnp,rfl,rfl⟩)⟩ (fun w h9=>St.sub (((h9.del mm).del b13).del b4))
 obtain rfl:lost=false:=hc2
 have hls:=(hbs.resolve_left (fun h=>by cases h.1)).2.2.1
 clear hbs
 refine Z1 (sqt 1 rfl (pur 1 rfl (Z3 ?_)))
 skip
 refine Sy.heap (fun w h9=>St.inn0 h9) ?_
 refine Zd (ι:=(x:{x:List Nat×List PL×Nat×Nat×KV // lls x.2.1=x.1.map Z2E∧(∀ l∈x.1,l<2 ^ h.gaps.length)∧Seg h.gaps (msk to_) spd.toNat (msk fr) 0 x.1 x.2.2.1 x.2.2.2.1∧x.1.length≤cnt 7 x.2.2.1∧(∃ k,Lst (Pl h.gaps (msk to_) spd.toNat x.2.2.1 x.2.2.2.1) k∧Lst (Pl h.gaps (msk to_) spd.toNat (msk fr) 0) (Zc1 h.gaps x.1+k))∧Memo h.gaps (msk to_) spd.toNat x.2.2.2.2})×OSl 23 1 (plrows x.1.2.1)) (fun y=>⟨[(4,.pointer (some ⟨b4,0,none⟩)),(10,.pointer (some ⟨br,0,none⟩)),(13,.pointer (some ⟨b13,0,none⟩)),(14,y.2.fs)],y.2.G++((mm,Zz true y.1.1.2.2.2.2)::(b13,cel 324 (plc y.1.1.2.2.1 y.1.1.2.2.2.1))::(b4,cel 95 (htl h (h.sg ag cg) (h.ss as_ cs)))::H),Inn y.1.1.2.1::RowsA (some ⟨br,0,none⟩) 4 [(rcD h ag as_ cg cs to_ spd bd br mm).row]::RowsA (some ⟨bd,0,none⟩) 4 [(dkA h ag as_ cg cs bd).row]::R⟩) (fun y=>128-y.1.1.2.2.1) ⟨⟨([],[],msk fr,0,kv),rfl,(fun l hl=>by cases hl),⟨rfl,rfl⟩,Nat.zero_le _,⟨n,hls,by show Lst _ (0+n);rw [Nat.zero_add];exact hls⟩,hme⟩,OSl.nil _ _⟩ ?_ (fun y=>?_)
 exact Zj (fun w h9=>St.sub h9)
 clear hme hls
 obtain ⟨⟨⟨ls,pl,m,c,kv⟩,hll,hlb,hseg,hlm,⟨k,hk,hN⟩,hme⟩,o⟩:=y
 dsimp only at hll hlb hseg hlm hk hN hme o ⊢
 have hmc:=hseg.lt hw7 hS7 (Nat.two_pow_pos _)
 have hm7:=hmc.1
 have hm128:m<128:=hm7
 have hc10:c<2 ^ 10:=Nat.lt_of_lt_of_le hmc.2 (Nat.pow_le_pow_right (by decide) hgl)
 have hc79:=Z6g 7 m
 have hpl:pl.length=ls.length:=by have:=congrArg List.length hll;rw [lls_len,List.length_map] at this;exact this
 refine Z3 (sqt 5 rfl (pur 1 rfl (spL rfl rfl (lhA (plc m c) Z0F rfl rfl rfl) rfl ?_)))
 refine ZG mm ?_
 refine cl rfl Z81 rfl rfl (Z9M (rcD h ag as_ cg cs to_ spd bd br mm) (Z4N h ag as_ cg cs hb.ok bd) hK hsp 128 (m) (c) kv _ _ hm7 hc10 (by omega) hme) ?_
 rintro _ _ R1 ⟨n9,l,lost,kv2,rfl,hbs,hme2,rfl,hR1⟩
 obtain rfl:=hR1.symm
 clear hR1
 obtain ⟨hlo,hn10,hlst,hcnd⟩:=hbs.resolve_left (fun h=>h.2.2.2 k hk.1)
 obtain rfl:=hlo
 have hnk:=hlst.unique hk
 have hwk:=hcnd.wk
 have hl10:l<2 ^ 10:=Nat.lt_of_lt_of_le hwk.1 (Nat.pow_le_pow_right (by decide) hgl)
 have hc210:=Zbc hc10 hl10
 refine alc rfl Z4x rfl (fun b15=>?_)
 refine ZH (l':=svl n9 l false) rfl rfl rfl Z0x rfl rfl rfl rfl (nl rfl) ?_
 refine sqt 7 rfl (pur 1 rfl (sp rfl (PE.fA Z7j rfl) rfl (spL rfl rfl (lh sc3 rfl rfl) rfl ?_)))
 refine cl rfl ZdB rfl rfl (Z7X l hl10 _ _) ?_
 rintro _ _ _ ⟨o9,rfl,rfl,rfl⟩
 obtain ⟨ao,co,heo,hfz⟩:=o9.freeze
 rw [heo,irl]
 refine Sy.heap (fun w h=>hfz h) ?_
 clear hfz heo
 refine bsl (out:=[_]) rfl Ziy Zel rfl rfl rfl rfl rfl rfl (fun b55=>?_)
 refine apO (o) rfl Zgj rfl rfl (Z0B (row:=plrow ⟨ao,co,Z2E l⟩) rfl) rfl rfl ((by rw [plrows_len];simp only [List.length_singleton];omega)) rfl (fun o56=>?_)
 refine pur 1 rfl (Z0 ?_)
 refine Zb [0,0,2,0,8,0,32,120,254,511,0,1024,0,4096,15360,32767,0,131071] (.tk 0 (.tk 1 (.ld 2 (.tk 3 (.ld 4 (.tk 5 (.ld 6 (.tk 7 (.tk 8 (.tk 10 (.ld 11 (.tk 12 (.ld 13 (.tk 14 (.any (.alt 9 (.tk 15 (.big 16 (.big 17 .done))) (.alt 16 (.big 9 (.tk 15 (.big 17 .done))) .stop))))))))))))))))) Zo (by kernel_rfl) ?_
 refine Sy.heap (fun w h=>St.innSnoc (l:=pl) ⟨ao,co,Z2E l⟩ h) ?_
 refine Zl 1 rfl (tk rfl (PE.fA ZV rfl) rfl (ld rfl rfl (lh sc3 rfl rfl) rfl (tk rfl (PE.fA Z33 rfl) rfl (ld rfl rfl (lh sc3 rfl rfl) rfl (tk rfl (PE.fA Z7j rfl) rfl (ld rfl rfl (lh sc3 rfl rfl) rfl (tk rfl (PE.orN (m:=c) (n:=l) rfl rfl (Ze3 hc10 (Nat.le_refl _)) (Ze3 hl10 (Nat.le_refl _))) rfl (tk rfl (PE.build (out:=[_,_]) Z7u Z3u rfl rfl) rfl (tk rfl (PE.fA Z33 rfl) rfl (ld rfl rfl (lh sc3 rfl rfl) rfl (tk rfl (PE.fA Z7j rfl) rfl (ld rfl rfl (lh sc3 rfl rfl) rfl (tk rfl (PE.orN (m:=c) (n:=l) rfl rfl (Ze3 hc10 (Nat.le_refl _)) (Ze3 hl10 (Nat.le_refl _))) rfl ?_)))))))))))))
 refine Z1o ?_ ?_
 refine clV rfl Z82 rfl rfl (Z3w (rcD h ag as_ cg cs to_ spd bd br mm) (Z4N h ag as_ cg cs hb.ok bd) m (c|||l) hm7 hc210 _ _) ?_
 refine bg (fun w hs=>⟨(lh sc3 rfl rfl) w hs,(lh sc3 rfl rfl) w hs,trivial,trivial,trivial,trivial⟩) ?_
 refine tk rfl (PE.build (out:=[_,_]) Z7u Z3u rfl rfl) rfl (alc rfl Z3u rfl (fun b16=>?_))
 refine bg (fun w hs=>⟨(lh sc3 rfl rfl) w hs,(lh sc3 rfl rfl) w hs,trivial⟩) ?_
 refine ZH (l':=plc ((spr h.gaps (c|||l) m)) ((c|||l))) rfl rfl rfl Z7g rfl rfl rfl rfl (nl rfl) ?_
 refine bgT (Z0 (sqt 5 rfl (sp rfl (PE.fA ZV rfl) rfl (spL rfl rfl (lh sc3 rfl rfl) rfl (sp rfl (PE.fA ZV rfl) rfl (spL rfl rfl (lh sc3 rfl rfl) rfl (pur 1 rfl ?_)))))))
 refine Z2 rfl ?_ ?_<;>intro hc3<;>try simp only [cS] at hc3
 have he2:(spr h.gaps (c|||l) m)=m:=by omega
 have hnl:n9=cnt h.gaps.length l:=by
   rcases hcnd.2.2.2 with ⟨_,h5⟩ | ⟨h5,_⟩
   · exact h5
   · exact absurd he2 h5
 obtain ⟨ac,cc,hfe,hcc9,hff⟩:=(o56.cast (Z1V pl ⟨ao,co,Z2E l⟩)).freezeC
 rw [plrows_len] at hcc9 hfe
 rw [show o56.fs=_ from hfe]
 refine Sy.heap (fun w h=>hff (St.pullG o56.G h)) ?_
 refine sqt 3 rfl (pur 3 rfl (Z4 ?_))
 exact rtB rfl rfl rfl rfl ⟨rfl,.inr (.inr ⟨hre,ls++[l],pl++[⟨ao,co,Z2E l⟩],ac,cc,by rw [Z5x,hll,List.map_append];rfl,by rw [List.length_append,List.length_singleton];omega,hcc9,fun x hx=>(List.mem_append.1 hx).elim (hlb x) (fun h=>by rw [List.mem_singleton.1 h];exact hwk.1),RunP.stop hseg hcnd he2,by rw [Z1K,← hnl,hnk];exact hN,rfl,rfl⟩)⟩ (fun w h9=>St.sub (((((h9.del b16).del b55).del b15).del mm).del b13 |>.del b4))
 have he2:(spr h.gaps (c|||l) m)≠m:=by omega
 have hgr:=Z3E he2
 have hcg9:=Z84 hw7 hm7 he2
 obtain ⟨k2,hn2,hk2⟩:∃ k2,n9=cnt h.gaps.length l+k2∧Lst (Pl h.gaps (msk to_) spd.toNat (spr h.gaps (c|||l) m) (c|||l)) k2:=by
   rcases hcnd.2.2.2 with ⟨h5,_⟩ | ⟨_,k2,h6,h7⟩
   · exact absurd h5 he2
   · exact ⟨k2,h6,h7⟩
 refine Z1 (sqr 2 rfl (spL rfl rfl (lhA (plc (spr h.gaps (c|||l) m) (c|||l)) Z0F rfl rfl rfl) rfl ?_))
 refine ZH (l':=plc ((spr h.gaps (c|||l) m)) ((c|||l))) rfl rfl rfl Z7g rfl rfl rfl rfl (nl rfl) ?_
 exact Zc ⟨⟨(ls++[l],pl++[⟨ao,co,Z2E l⟩],(spr h.gaps (c|||l) m),(c|||l),kv2),by rw [Z5x,hll,List.map_append];rfl,fun x hx=>(List.mem_append.1 hx).elim (hlb x) (fun h=>by rw [List.mem_singleton.1 h];exact hwk.1),hseg.snoc hwk,by dsimp only;rw [List.length_append,List.length_singleton];omega,⟨k2,hk2,by dsimp only;rw [Z1K,Nat.add_assoc,← hn2,hnk];exact hN⟩,hme2⟩,o56.cast (Z1V pl ⟨ao,co,Z2E l⟩)⟩ (fun w h=>St.sub ((((h.del b16).del b55).del b15).perm (ZC [_] o56.G _)))
 refine Z1o ?_ ?_
 refine alc rfl Z3u rfl (fun b16=>?_)
 refine bg (fun w hs=>⟨(lh sc3 rfl rfl) w hs,(lh sc3 rfl rfl) w hs,(lh sc3 rfl rfl) w hs,(lh sc3 rfl rfl) w hs,(lh sc3 rfl rfl) w hs,trivial⟩) ?_
 refine clV rfl Z82 rfl rfl (Z3w (rcD h ag as_ cg cs to_ spd bd br mm) (Z4N h ag as_ cg cs hb.ok bd) m (c|||l) hm7 hc210 _ _) ?_
 refine bg (fun w hs=>⟨(lh sc3 rfl rfl) w hs,(lh sc3 rfl rfl) w hs,trivial,trivial,trivial,trivial⟩) ?_
 refine tk rfl (PE.build (out:=[_,_]) Z7u Z3u rfl rfl) rfl ?_
 refine ZH (l':=plc ((spr h.gaps (c|||l) m)) ((c|||l))) rfl rfl rfl Z7g rfl rfl rfl rfl (nl rfl) ?_
 refine bgT (Z0 (sqt 5 rfl (sp rfl (PE.fA ZV rfl) rfl (spL rfl rfl (lh sc3 rfl rfl) rfl (sp rfl (PE.fA ZV rfl) rfl (spL rfl rfl (lh sc3 rfl rfl) rfl (pur 1 rfl ?_)))))))
 refine Z2 rfl ?_ ?_<;>intro hc3<;>try simp only [cS] at hc3
 have he2:(spr h.gaps (c|||l) m)=m:=by omega
 have hnl:n9=cnt h.gaps.length l:=by
   rcases hcnd.2.2.2 with ⟨_,h5⟩ | ⟨h5,_⟩
   · exact h5
   · exact absurd he2 h5
 obtain ⟨ac,cc,hfe,hcc9,hff⟩:=(o56.cast (Z1V pl ⟨ao,co,Z2E l⟩)).freezeC
 rw [plrows_len] at hcc9 hfe
 rw [show o56.fs=_ from hfe]
 refine Sy.heap (fun w h=>hff (St.pullG o56.G h)) ?_
 refine sqt 3 rfl (pur 3 rfl (Z4 ?_))
 exact rtB rfl rfl rfl rfl ⟨rfl,.inr (.inr ⟨hre,ls++[l],pl++[⟨ao,co,Z2E l⟩],ac,cc,by rw [Z5x,hll,List.map_append];rfl,by rw [List.length_append,List.length_singleton];omega,hcc9,fun x hx=>(List.mem_append.1 hx).elim (hlb x) (fun h=>by rw [List.mem_singleton.1 h];exact hwk.1),RunP.stop hseg hcnd he2,by rw [Z1K,← hnl,hnk];exact hN,rfl,rfl⟩)⟩ (fun w h9=>St.sub (((((h9.del b16).del b55).del b15).del mm).del b13 |>.del b4))
 have he2:(spr h.gaps (c|||l) m)≠m:=by omega
 have hgr:=Z3E he2
 have hcg9:=Z84 hw7 hm7 he2
 obtain ⟨k2,hn2,hk2⟩:∃ k2,n9=cnt h.gaps.length l+k2∧Lst (Pl h.gaps (msk to_) spd.toNat (spr h.gaps (c|||l) m) (c|||l)) k2:=by
   rcases hcnd.2.2.2 with ⟨h5,_⟩ | ⟨_,k2,h6,h7⟩
   · exact absurd h5 he2
   · exact ⟨k2,h6,h7⟩
 refine Z1 (sqr 2 rfl (spL rfl rfl (lhA (plc (spr h.gaps (c|||l) m) (c|||l)) Z0F rfl rfl rfl) rfl ?_))
 refine ZH (l':=plc ((spr h.gaps (c|||l) m)) ((c|||l))) rfl rfl rfl Z7g rfl rfl rfl rfl (nl rfl) ?_
 exact Zc ⟨⟨(ls++[l],pl++[⟨ao,co,Z2E l⟩],(spr h.gaps (c|||l) m),(c|||l),kv2),by rw [Z5x,hll,List.map_append];rfl,fun x hx=>(List.mem_append.1 hx).elim (hlb x) (fun h=>by rw [List.mem_singleton.1 h];exact hwk.1),hseg.snoc hwk,by dsimp only;rw [List.length_append,List.length_singleton];omega,⟨k2,hk2,by dsimp only;rw [Z1K,Nat.add_assoc,← hn2,hnk];exact hN⟩,hme2⟩,o56.cast (Z1V pl ⟨ao,co,Z2E l⟩)⟩ (fun w h=>St.sub ((((h.del b16).del b55).del b15).perm (ZC [_] o56.G _)))
 exact Z3f
theorem ZgI:cal Tryz.prog 139=true:=by kernel_rfl
theorem ZeE {h:Hse} {fr to_:List Int} (hb:h.Bot fr to_):Two h.gaps (msk fr) (msk to_):=by
 obtain ⟨q1,q2,q3,q4,q5,q6⟩:=Z2o hb
 have hok:=hb.ok
 exact ⟨fun g hg=>by have:=hok.gaps g hg;have:=hok.bins;omega,fun i g hg=>by have:=hok.gaps g (List.mem_of_getElem? hg);omega,Z3n fun x hx=>q1 x hx,Z3n fun x hx=>q2 x hx,fun v hv=>by
   cases hk:(msk to_).testBit v with
   | false=>rfl
   | true=>exact absurd ((ZN (fun k hk=>(q2 k hk).1) v).1 hk) (hb.no _ ((ZN (fun k hk=>(q1 k hk).1) v).1 hv))⟩
theorem Zh3:cal Tryz.prog 219=true:=by kernel_rfl
theorem ik3:Z7l Tryz.prog 3=some .i64:=by kernel_rfl
section steps
variable {P:Program} {r:Option Nat} {ops:Array Oper} {n:Nat} {L:Zm} {D:List Deferred} {H:Z8} {R:Z5} {K:Act→World→Prop}
 {i d:Nat} {ty:TypeId} {pos:String} {af:Array Edge}
theorem Zjd {t tn e sz by_ k:Nat} {kq kn:IntKind} {s x:Operand} {zl:List Value} (ho:ops[i]?=some ⟨some d,.call { callee:=.builtin .append,args := #[s,x],argTypes := #[t,tn] },ty,pos,af,none⟩)
   (ht:apT P t=some (e,sz,by_)) (htn:Z7l P tn=some kn) (hz:Zr P e=some zl) (hs:ev L s=some (.slice none 0 0)) (hx:ev L x=some (.int kq k))
   (hk:0<k) (hs0:0<sz) (hb:k*by_≤140737488355328∧k≤9223372036854775807) (hd:Nat.blt d n=true)
   (h:∀ (b' cap':Nat) (junk:List Value),k≤cap'→cap'≤9223372036854775807→k*sz+junk.length=cap'*sz→Sy n ((d,.slice (some ⟨b',0,none⟩) k cap')::L) D ((b',cel e (Z0Y k zl++junk))::H) R K):Sy n L D H R (stp P r ops i K):=fun a w ha hD hw=>by
 unfold apT at ht
 split at ht
 case h_2=>cases ht
 rename_i e' hu
 split at ht
 case h_2=>cases ht
 rename_i ie hi
 split at ht
 case h_2=>cases ht
 rename_i z hzz
 cases hzs:Nat.beq z.cells.size ie.size with
 | false=>rw [hzs] at ht;cases ht
 | true =>
 rw [hzs,cond_true] at ht
 cases ht
 have hzs:=Nat.eq_of_beq_eq_true hzs
 have hzl:z.cells.toList=zl:=by
   have:Zr P e=some z.cells.toList:=by simp [Zr,hi,hzz]
   rw [this] at hz;exact Option.some.inj hz
 have hun:P.underlying tn=some (.int kn):=by
   unfold Z7l at htn
   split at htn
   · rename_i q hq;cases htn;exact hq
   · cases htn
 have hold:(Builtin.firstCells ie.size 0 (.slice none 0 0)).run P w.drew = .ok ([]:List Value).toArray w.drew:=by
   simp [Builtin.firstCells,Sem.run_pure]
 have h2:=Lib.run_append_grow_zeros (P:=P) w t tn ty e ie z kq kn hu hun hi hzz none 0 0 [] hold k hk hs0 (by omega) (by omega) (by omega) (growslice_fits (by omega) (by rw [Nat.zero_add];exact hb.1))
 rw [Nat.zero_add] at h2
 have hge:=grownCap_ge w k 0 e
 have hcm:grownCap w k 0 e≤maxLen:=grownCap_le_maxLen w _ 0 e (by simp only [maxLen];omega)
 have hrep:∀ q,(Builtin.zeroCells z.cells q).toList=Z0Y q zl:=fun q=>by rw [← hzl];simp [Builtin.zeroCells,Z0Y]
 have e1:(.cells (([]:List Value).toArray++Builtin.zeroCells z.cells k++Builtin.zeroCells z.cells (grownCap w k 0 e-k)) e:Obj)=cel e (Z0Y k zl++(Builtin.zeroCells z.cells (grownCap w k 0 e-k)).toList):=by
   unfold cel;congr 1;apply Array.toList_inj.1;simp [hrep]
 refine Zp ho (Zh _ rfl _) (v:=.slice (some ⟨w.heap.size,0,none⟩) k (grownCap w k 0 e)) (w':=w.drew.alloc (cel e (Z0Y k zl++(Builtin.zeroCells z.cells (grownCap w k 0 e-k)).toList))) ?_
   (h w.heap.size (grownCap w k 0 e) (Builtin.zeroCells z.cells (grownCap w k 0 e-k)).toList hge (by simp only [maxLen] at hcm;omega) ?_ _ _ (ha.put (by simpa using hd) _) hD (hw.drew.alloc _))
 · simp only [execOp,resolve,invoke,builtin,Sem.run_bind,Sem.run_pure,Result.andThen,List.map_toArray,List.map_cons,List.map_nil,ha.reads _ _ hs,ha.reads _ _ hx]
   rw [e1] at h2
   rw [h2]
 · simp only [Array.length_toList,size_zeroCells,hzs,← Nat.add_mul]
   congr 1;omega
end steps
theorem Z16 {k:Nat} {v:Value}:(Z0Y k [v]).length=k:=by simp [Z0Y]
def Zae (pl:List PL) (k:Nat):List Int:=(lls (pl.take k)).flatten
theorem Z6c {pl:List PL} {k:Nat} {x:PL} (h:pl[k]?=some x):Zae pl (k+1)=Zae pl k++x.l:=by
 unfold Zae lls
 rw [List.take_add_one,h,Option.toList_some,List.map_append,List.flatten_append];simp
theorem Z5c (pl:List PL):∀ k,(Zae pl k).length≤(lls pl).flatten.length:=fun k=>by
 unfold Zae lls
 have h:pl.map (·.l)=(pl.take k).map (·.l)++(pl.drop k).map (·.l):=by rw [← List.map_append,List.take_append_drop]
 rw [h,List.flatten_append,List.length_append];omega
theorem Z76 (k:Nat) (hk:k≤1000000) (H:Z8) (R:Z5) :
    Fn Tryz.prog 219 [.slice none 0 0,.int .i64 (k:Int)] H R (fun v H' R'=>∃ o:OSl 3 1 [],v=o.fs∧H'=o.G++H∧R'=R):=by
 refine Ze Tryz.func219 rfl Tryz.ntmps219 rfl ?_
 refine sqt 1 rfl (pur 1 rfl (Z0 (sqt 2 rfl (pur 2 rfl ?_))))
 refine Z2 rfl ?_ ?_<;>intro hc0
 simp only [decide_eq_true_eq] at hc0
 omega
 refine Z1 (Z0 (sqt 8 rfl (pur 2 rfl (sp rfl (PE.capSl ZD rfl) rfl (pur 1 rfl (sp rfl (PE.lenSl ZD rfl) rfl (sp rfl (PE.sub rfl rfl (by omega)) rfl (sp rfl (PE.sub rfl rfl (by omega)) rfl ?_))))))))
 rw [show (k:Int)-(((0:Nat):Int)-((0:Nat):Int))=(k:Int) by omega]
 refine pur 1 rfl (sqt 2 rfl (pur 2 rfl ?_))
 refine Z2 rfl ?_ ?_<;>intro hc1
 try simp only [cS] at hc1
 refine sqr 10 rfl (pur 2 rfl (sp rfl (PE.capSl ZD rfl) rfl (sp rfl (PE.slHi (h:=0) Z18 rfl rfl (by omega)) rfl (pur 1 rfl ?_))))
 refine Zjd rfl Z62 ik3 zl3 rfl rfl (by omega) (by omega) (by omega) rfl (fun b2 cap2 jk2 hc1 hc2 hc3=>?_)
 refine pur 1 rfl (sp rfl (PE.lenSl ZD rfl) rfl (sp rfl (PE.slHi (h:=0) Z18 rfl rfl (by omega)) rfl (pur 1 rfl (sqt 2 rfl (pur 2 rfl (Z4 ?_))))))
 exact rtA rfl rfl rfl ⟨⟨.slice (some ⟨b2,0,none⟩) 0 cap2,[(b2,cel 3 (Z0Y k [.int .i64 0]++jk2))],by simp,.inr ⟨b2,cap2,Z0Y k [.int .i64 0]++jk2,rfl,rfl,by rw [List.length_append,Z16];simp only [List.length_nil];omega,Nat.zero_le _,hc2⟩⟩,rfl,rfl,rfl⟩ idH
 refine Z1 (sqt 2 rfl (pur 2 rfl (Z4 ?_)))
 exact rtA rfl rfl rfl ⟨OSl.nil _ _,rfl,rfl,rfl⟩ idH
set_option maxHeartbeats 400000 in
theorem Z2p (pl:List PL) (ap:Option Addr) (cp:Nat) (hpl:pl.length≤1000000) (htl:(lls pl).flatten.length≤1000000) (H:Z8) (R:Z5) [hP:MemRows ap 1 (plrows pl) R] [hI:MemF (Inn pl) R] :
    Fn Tryz.prog 140 [.slice ap pl.length cp] H R (fun v H' R'=>∃ o:OSl 3 1 (irows (lls pl).flatten),v=o.fs∧H'=o.G++H∧R'=R):=by
 refine Ze Tryz.func140 rfl Tryz.ntmps140 rfl ?_
 refine sqt 1 rfl (pur 1 rfl (sqt 1 rfl (pur 1 rfl (Z0 (sqt 3 rfl (pur 1 rfl (sp rfl (PE.lenSl Z4a rfl) rfl (pur 1 rfl (Z3 ?_)))))))))
 refine Zd (ι:={k:Nat // k≤pl.length}) (fun k=>⟨[(0,.slice ap pl.length cp),(3,.int .i64 ((Zae pl k.1).length:Nat)),(9,.slice ap pl.length cp),(10,.int .i64 pl.length),(11,.int .i64 k.1)],H,R⟩) (fun k=>pl.length-k.1) ⟨0,Nat.zero_le _⟩ ?_ (fun k=>?_)
 exact Zj idH
 obtain ⟨k,hk⟩:=k
 dsimp only at hk ⊢
 have hcl:=Z5c pl k
 have hcl2:=Z5c pl (k+1)
 refine sqt 1 rfl (pur 1 rfl (Z0 ?_))
 refine Z2 rfl ?_ ?_<;>intro hc0<;>try simp only [cS] at hc0
 obtain ⟨x,hx⟩:∃ x,pl[k]?=some x:=⟨_,List.getElem?_eq_getElem (by omega)⟩
 have hst:=congrArg List.length (Z6c hx)
 rw [List.length_append] at hst
 refine Zi (a:=ap) (sz:=1) (rows:=plrows pl) (ne0 (by rw [plrows_len];omega)) (fun ba oa he=>?_)
 subst he
 refine Z1 (Z0 (Z3 (sqt 3 rfl (sp rfl (PE.indexAddr ZcB rfl rfl (by omega) (by omega)) rfl (spL rfl rfl (lf0 Z26 (pl_get hx) rfl) rfl (pur 1 rfl (sqt 5 rfl (pur 2 rfl (sp rfl (PE.lenSl ZD rfl) rfl (sp rfl (PE.add rfl rfl (by omega)) rfl ?_))))))))))
 rw [show ((Zae pl k).length:Int)+(x.l.length:Int)=((Zae pl (k+1)).length:Int) by omega]
 refine pur 1 rfl (sqt 2 rfl (pur 2 rfl ?_))
 refine Z2 rfl ?_ ?_<;>intro hc1
 simp only [decide_eq_true_eq] at hc1
 omega
 refine Z1 (sqr 2 rfl (sp rfl (PE.add rfl rfl (by omega)) rfl (pur 1 rfl ?_)))
 exact Zc ⟨k+1,by omega⟩ idH
 obtain rfl:k=pl.length:=by omega
 refine Z7 (Z9 (Z9 (Zk (sqt 3 rfl (pur 1 rfl ?_)))))
 refine cl rfl Zh3 rfl rfl (Z76 (Zae pl pl.length).length (by omega) _ _) ?_
 rintro _ _ R1 ⟨o0,rfl,rfl,hR1⟩
 obtain rfl:=hR1.symm
 clear hR1
 refine pur 1 rfl (Z0 (sqt 3 rfl (pur 1 rfl (sp rfl (PE.lenSl Z4a rfl) rfl (pur 1 rfl (Z3 ?_))))))
 refine Zd (ι:=(k:{k:Nat // k≤pl.length})×OSl 3 1 (irows (Zae pl k.1))) (fun y=>⟨[(6,y.2.fs),(25,.slice ap pl.length cp),(26,.int .i64 pl.length),(27,.int .i64 y.1.1)],y.2.G++H,R⟩) (fun y=>pl.length-y.1.1) ⟨⟨0,Nat.zero_le _⟩,o0⟩ ?_ (fun y=>?_)
 exact Zj idH
 obtain ⟨⟨k,hk⟩,o⟩:=y
 dsimp only at hk o ⊢
 have hcl:=Z5c pl k
 have hcl2:=Z5c pl (k+1)
 refine sqt 1 rfl (pur 1 rfl (Z0 ?_))
 refine Z2 rfl ?_ ?_<;>intro hc2<;>try simp only [cS] at hc2
 obtain ⟨x,hx⟩:∃ x,pl[k]?=some x:=⟨_,List.getElem?_eq_getElem (by omega)⟩
 have hst:=Z6c hx
 have hsl:=congrArg List.length hst
 rw [List.length_append] at hsl
 refine Zi (a:=ap) (sz:=1) (rows:=plrows pl) (ne0 (by rw [plrows_len];omega)) (fun ba oa he=>?_)
 subst he
 refine Sy.heap (fun w h=>St.inn (x:=x) h (List.mem_of_getElem? hx)) ?_
 refine Z1 (Z0 (Z3 (sqt 3 rfl (sp rfl (PE.indexAddr ZcB rfl rfl (by omega) (by omega)) rfl (spL rfl rfl (lf0 Z26 (pl_get hx) rfl) rfl (pur 1 rfl (sqr 4 rfl (pur 2 rfl ?_))))))))
 refine apO (news:=irows x.l) o rfl Z62 rfl rfl (Zbs) (irl _) (by simp [Z05,irows,Value.oneCell']) (by rw [irl,irl];omega) rfl (fun o33=>?_)
 refine pur 1 rfl (sqr 2 rfl (sp rfl (PE.add rfl rfl (by omega)) rfl (pur 1 rfl ?_)))
 exact Zc ⟨⟨k+1,by omega⟩,o33.cast (by rw [hst];simp [irows])⟩ (fun w h=>h.ftail)
 obtain rfl:k=pl.length:=by omega
 refine Z7 (Z9 (Z9 (Zk (sqt 2 rfl (pur 2 rfl (Z4 ?_))))))
 exact rtA rfl rfl rfl ⟨o.cast (by unfold Zae;rw [List.take_length]),rfl,rfl,rfl⟩ idH
theorem Zab:cal Tryz.prog 140=true:=by kernel_rfl
def Zj4 (h:Hse) (fr to_:List Int) (spd:Int) (H:Z8) (R:Z5):Value→Z8→Z5→Prop:=fun v H' R'=>H'=H∧R'=R∧((h.rcE fr to_ spd≠0∧v = .tuple #[.int .i64 0,.int .i64 (h.rcE fr to_ spd)]) ∨
 (h.rcE fr to_ spd=0∧(∀ n,¬ Pl h.gaps (msk to_) spd.toNat (msk fr) 0 n)∧v = .tuple #[.int .i64 0,.int .i64 6]) ∨
 (h.rcE fr to_ spd=0∧∃ n:Nat,n≤10∧Lst (Pl h.gaps (msk to_) spd.toNat (msk fr) 0) n∧v = .tuple #[.int .i64 (n:Int),.int .i64 0]))
theorem Z8Q {gs:List Gp} (hg:gs.length≤10):∀ {ls:List Nat},(∀ l∈ls,l<2 ^ gs.length)→((ls.map Z2E).flatten).length=Zc1 gs ls
 | [],_=>rfl
 | l::ls,h=>by
   rw [List.map_cons,List.flatten_cons,List.length_append,Z8Q hg (fun x hx=>h x (List.mem_cons_of_mem _ hx)),Z8z (h l (by simp)) hg];rfl
theorem St.norows9 {sz:Nat} {H:Z8} {R:Z5} {w:World} (h:St H R w):St H (Inn []::RowsA none sz (plrows [])::R) w:=St.inn0 (St.norows (sz:=sz) h)
set_option maxHeartbeats 400000 in
theorem c_Fewest (h:Hse) (ag as_:Option Addr) (cg cs:Nat) (hlg:h.gaps.length≤9223372036854775807) (hls:h.sights.length≤9223372036854775807) (fr to_:List Int) (af at_:Option Addr) (cf ct:Nat) (hlf:fr.length≤1000000) (hlt:to_.length≤1000000) (hfc:fr.length≤cf) (htc:to_.length≤ct) (spd:Int) (H:Z8) (R:Z5) [hG:MemRows ag 2 (grows h.gaps) R] [hS:MemRows as_ 3 (srows h.sights) R] [hF:MemRows af 1 (irows fr) R] [hT:MemRows at_ 1 (irows to_) R] :
    Fn Tryz.prog 73 [h.v (h.sg ag cg) (h.ss as_ cs),.slice af fr.length cf,.slice at_ to_.length ct,.int .i64 spd] H R (Zj4 h fr to_ spd H R):=by
 refine Ze Tryz.func73 rfl Tryz.ntmps73 rfl ?_
 refine sqt 3 rfl (bx rfl rfl rfl (fun b4=>pur 2 rfl (sqt 10 rfl (spL rfl rfl (lhA (htl h (h.sg ag cg) (h.ss as_ cs)) ZbY rfl rfl rfl) rfl (pur 3 rfl ?_)))))
 refine cl rfl ZgI rfl rfl (Zgo h ag as_ cg cs hlg hls fr to_ af at_ cf ct hlf hlt hfc htc spd _ _) ?_
 rintro _ _ R1 ⟨rfl,hq⟩
 rcases hq with ⟨h9,rfl,hR1⟩ | ⟨h9,hnp,rfl,hR1⟩ | ⟨h9,ls,pl,a,c,hll,hpk,hpc,hlb,hrun,hlst,rfl,hR1⟩
 all_goals obtain rfl:=hR1.symm
 all_goals clear hR1
 refine pur 5 rfl (sqt 6 rfl ?_)
 refine Sy.heap (fun w h=>St.norows9 (sz:=1) h) ?_
 refine pur 1 rfl ?_
 refine cl rfl Zab rfl rfl (Z2p [] none 0 (by decide) (by decide) _ _) ?_
 rintro _ _ R1 ⟨o,rfl,rfl,hR1⟩
 obtain rfl:=hR1.symm
 clear hR1
 obtain ⟨ao,co,heo,hfz⟩:=o.freeze
 rw [heo,irl]
 refine Sy.heap (fun w h=>hfz h) ?_
 clear hfz heo
 refine sp rfl (PE.lenSl ZD rfl) rfl (pur 3 rfl (Z4 ?_))
 exact rtB rfl rfl rfl rfl ⟨rfl,rfl,.inl ⟨h9,rfl⟩⟩ (fun w h9=>St.sub (h9.del b4))
 refine pur 5 rfl (sqt 6 rfl ?_)
 refine Sy.heap (fun w h=>St.norows9 (sz:=1) h) ?_
 refine pur 1 rfl ?_
 refine cl rfl Zab rfl rfl (Z2p [] none 0 (by decide) (by decide) _ _) ?_
 rintro _ _ R1 ⟨o,rfl,rfl,hR1⟩
 obtain rfl:=hR1.symm
 clear hR1
 obtain ⟨ao,co,heo,hfz⟩:=o.freeze
 rw [heo,irl]
 refine Sy.heap (fun w h=>hfz h) ?_
 clear hfz heo
 refine sp rfl (PE.lenSl ZD rfl) rfl (pur 3 rfl (Z4 ?_))
 exact rtB rfl rfl rfl rfl ⟨rfl,rfl,.inr (.inl ⟨h9,hnp,rfl⟩)⟩ (fun w h9=>St.sub (h9.del b4))
 refine pur 5 rfl (sqt 6 rfl ?_)
 have hgl:=(Zis h9).1.ok.gl
 have hlen:(lls pl).flatten.length=Zc1 h.gaps ls:=by rw [hll];exact Z8Q hgl hlb
 have hs10:=hlst.1.few
 have hpl:pl.length=ls.length:=by have:=congrArg List.length hll;rw [lls_len,List.length_map] at this;exact this
 refine pur 1 rfl ?_
 refine cl rfl Zab rfl rfl (Z2p pl a c (by omega) (by omega) _ _) ?_
 rintro _ _ R1 ⟨o,rfl,rfl,hR1⟩
 obtain rfl:=hR1.symm
 clear hR1
 obtain ⟨ao,co,heo,hfz⟩:=o.freeze
 rw [heo,irl,hlen]
 refine Sy.heap (fun w h=>hfz h) ?_
 clear hfz heo
 refine sp rfl (PE.lenSl ZD rfl) rfl (pur 3 rfl (Z4 ?_))
 exact rtB rfl rfl rfl rfl ⟨rfl,rfl,.inr (.inr ⟨h9,Zc1 h.gaps ls,by omega,hlst,rfl⟩)⟩ (fun w h9=>St.sub (h9.del b4))
theorem Zky:ZP Tryz.prog 95=some [(0,1),(1,1),(2,1)]:=by kernel_rfl
theorem ZkA:slE Tryz.prog 92=some (97,2):=by kernel_rfl
theorem ZkB:Zr Tryz.prog 95=some ([.int .i64 0,.slice none 0 0,.slice none 0 0]):=by kernel_rfl
theorem Zhs:cal Tryz.prog 33=true:=by kernel_rfl
theorem Z30:cal Tryz.prog 21=true:=by kernel_rfl
theorem ZeR:cal Tryz.prog 53=true:=by kernel_rfl
theorem Z7e:ZF Tryz.prog 109=some 1:=by kernel_rfl
theorem ZjS:elN Tryz.prog 22=some 1:=by kernel_rfl
theorem Z19:ZY Tryz.prog 111 0=some 0:=by kernel_rfl
theorem Z08:ZY Tryz.prog 111 1=some 1:=by kernel_rfl
theorem Zw:ZY Tryz.prog 111 2=some 2:=by kernel_rfl
theorem ZaN:Z7l Tryz.prog 109=some .u32:=by kernel_rfl
theorem Z5v:Z2y Tryz.prog 22=true:=by kernel_rfl
theorem ZfF:ZP Tryz.prog 111=some [(0,1),(1,1),(2,1)]:=by kernel_rfl
theorem Z0O:Z0h Tryz.prog 109=true:=by kernel_rfl
theorem Zdc:Z0h Tryz.prog 22=true:=by kernel_rfl
theorem sc5:Z0h Tryz.prog 5=true:=by kernel_rfl
theorem Z5V:(Tryz.prog.underlying 109).isSome=true:=by kernel_rfl
theorem us3:(Tryz.prog.underlying 3).isSome=true:=by kernel_rfl
theorem us5:(Tryz.prog.underlying 5).isSome=true:=by kernel_rfl
theorem Zg0:Zr Tryz.prog 111=some ([.slice none 0 0,.int .i64 0,.int .u32 0]):=by kernel_rfl
def urow (x:Int):List Value:=[.int .u8 x]
def urows (l:List Int):List (List Value):=l.map urow
theorem c_Fill (g:List Int) (ag:Option Addr) (cg:Nat) (hgl:g.length≤9223372036854775807) (H:Z8) (R:Z5) :
    Fn Tryz.prog 7 [.slice ag g.length cg] H R (fun v H' R'=>∃ bk,∃ mx:Int,(0≤mx∧mx≤4294967295)∧v = .pointer (some ⟨bk,0,none⟩)∧H'=(bk,cel 111 [.slice ag g.length cg,.int .i64 (0),.int .u32 (mx)])::H∧R'=R):=by
 refine Ze Tryz.func7 rfl Tryz.ntmps7 rfl ?_
 refine sqt 1 rfl (pur 1 rfl (sqt 8 rfl (pur 2 rfl (sp rfl (PE.lenSl Z5v rfl) rfl ?_))))
 refine spE rfl (PE.convU us3 ZaN rfl) rfl ?_
 rintro _ ⟨u6,rfl,hu6⟩
 refine spE rfl (PE.xorU rfl rfl) rfl ?_
 rintro _ ⟨u7,rfl,hu7⟩
 refine sp rfl (PE.build (out:=[_,_,_]) ZfF Zg0 rfl rfl) rfl (bx rfl rfl rfl (fun b9=>pur 1 rfl (Z4 ?_)))
 exact rtA rfl rfl rfl ⟨b9,u7,hu7,rfl,rfl,rfl⟩ idH
theorem Z3U (g:List Int) (ag:Option Addr) (cg bk:Nat) (hgl:g.length≤9223372036854775807) (tq mx:Int) (htq:0≤tq∧tq≤1000000000) (hmx:0≤mx∧mx≤4294967295) (H:Z8) (R:Z5) [hG:MemRows ag 1 (urows g) R] :
    Fn Tryz.prog 53 [.pointer (some ⟨bk,0,none⟩)] ((bk,cel 111 [.slice ag g.length cg,.int .i64 (tq),.int .u32 (mx)])::H) R (fun v H' R'=>∃ x m':Int,(0≤x∧x≤65535)∧v = .int .i64 x∧(0≤m'∧m'≤4294967295)∧H'=(bk,cel 111 [.slice ag g.length cg,.int .i64 (tq+1),.int .u32 (m')])::H∧R'=R):=by
 refine Ze Tryz.func53 rfl Tryz.ntmps53 rfl ?_
 refine sqt 1 rfl (pur 1 rfl (Z0 (sqt 6 rfl (pur 1 rfl (sp rfl (PE.nilCheck rfl) rfl (sp rfl (PE.fA Z19 rfl) rfl (spL rfl rfl (lh Zdc rfl rfl) rfl (sp rfl (PE.lenSl Z5v rfl) rfl (pur 1 rfl (sqt 2 rfl (pur 2 rfl ?_)))))))))))
 refine Z2 rfl ?_ ?_<;>intro hc0<;>try simp only [cS] at hc0
 obtain ⟨y,hy⟩:∃ y,g[(tq%g.length).toNat]?=some y:=⟨_,List.getElem?_eq_getElem (by have:=Int.emod_lt_of_pos tq hc0;have:=Int.emod_nonneg tq (show (g.length:Int)≠0 by omega);omega)⟩
 refine Zi (a:=ag) (sz:=1) (rows:=urows g) (by intro h0;simp [urows] at h0;simp [h0] at hy) (fun bgr ogr he=>?_)
 subst he
 refine Zb [0,0,2,6,14,0,32,96,224,0,512,1536,3584,0,15872,32736,65504,131040,262142,524286,1048575,2097151,4194303] (tks 0 4 (.ld 4 (tks 5 3 (.ld 8 (tks 9 3 (.ld 12 (tks 13 3 (.ld 16 (tks 17 5 (.big 22 .done)))))))))) Zo (by kernel_rfl) ?_
 refine Zl 2 rfl (tk rfl (PE.nilCheck rfl) rfl (tk rfl (PE.fA Zw rfl) rfl (ld rfl rfl (lh Z0O rfl rfl) rfl (Zl 1 rfl (tk rfl (PE.nilCheck rfl) rfl (tk rfl (PE.fA Z19 rfl) rfl (ld rfl rfl (lh Zdc rfl rfl) rfl (Zl 1 rfl (tk rfl (PE.nilCheck rfl) rfl (tk rfl (PE.fA Z08 rfl) rfl (ld rfl rfl (lh sc3 rfl rfl) rfl (Zl 1 rfl (tk rfl (PE.rem rfl rfl (by omega)) rfl (tk rfl (PE.indexAddr ZjS rfl rfl (by exact Int.emod_nonneg tq (by omega)) (by exact Int.emod_lt_of_pos tq hc0)) rfl (ld rfl rfl (lf0 (x:=.int .u8 y) sc5 (by simp [urows,urow,hy];rfl) rfl) rfl ?_)))))))))))))))
 refine tkE rfl (PE.convU us5 ZaN rfl) rfl ?_
 rintro _ ⟨u28,rfl,hu28⟩
 refine tkE rfl (PE.xorU rfl rfl) rfl ?_
 rintro _ ⟨u29,rfl,hu29⟩
 refine tkE rfl (PE.mulU rfl rfl) rfl ?_
 rintro _ ⟨u30,rfl,hu30⟩
 refine tk rfl (PE.nilCheck rfl) rfl (tk rfl (PE.fA Zw rfl) rfl ?_)
 refine sto rfl rfl rfl Z7e rfl rfl rfl rfl ?_
 refine bgT (sqt 8 rfl (pur 1 rfl (sp rfl (PE.nilCheck rfl) rfl (sp rfl (PE.fA Z08 rfl) rfl (spL rfl rfl (lh sc3 rfl rfl) rfl (sp rfl (PE.add rfl rfl (by omega)) rfl (sp rfl (PE.nilCheck rfl) rfl (sp rfl (PE.fA Z08 rfl) rfl ?_))))))))
 refine sto rfl rfl rfl cn3 rfl rfl rfl rfl ?_
 refine Z0 (Z0 ?_)
 refine Zb [0,1,3,7,0,16,48,112,240,511] (tks 0 3 (.ld 3 (tks 4 3 (.ld 7 (.tk 8 (.tk 9 .done)))))) Zo (by kernel_rfl) ?_
 refine Zl 1 rfl (tk rfl (PE.nilCheck rfl) rfl (tk rfl (PE.fA Z08 rfl) rfl (ld rfl rfl (lh sc3 rfl rfl) rfl (Zl 1 rfl (tk rfl (PE.nilCheck rfl) rfl (tk rfl (PE.fA Z19 rfl) rfl (ld rfl rfl (lh Zdc rfl rfl) rfl (tk rfl (PE.lenSl Z5v rfl) rfl (Zl 1 rfl ?_)))))))))
 refine Z2 rfl ?_ ?_<;>intro hc1<;>try simp only [cS] at hc1
 refine sqr 10 rfl (pur 2 rfl (sp rfl (PE.nilCheck rfl) rfl (sp rfl (PE.fA Zw rfl) rfl (spL rfl rfl (lh Z0O rfl rfl) rfl ?_))))
 refine spE rfl (PE.mulU rfl rfl) rfl ?_
 rintro _ ⟨u55,rfl,hu55⟩
 refine spE rfl (PE.addU rfl rfl) rfl ?_
 rintro _ ⟨u56,rfl,hu56⟩
 refine sp rfl (PE.nilCheck rfl) rfl (sp rfl (PE.fA Zw rfl) rfl ?_)
 refine sto rfl rfl rfl Z7e rfl rfl rfl rfl ?_
 refine Z0 ?_
 refine Zb [0,1,3,7,0,16,48,112,240,511,1023,2047,4095,8191] (tks 0 3 (.ld 3 (tks 4 3 (.ld 7 (tks 8 6 .done))))) Zo (by kernel_rfl) ?_
 refine Zl 1 rfl (tk rfl (PE.nilCheck rfl) rfl (tk rfl (PE.fA Zw rfl) rfl (ld rfl rfl (lh Z0O rfl rfl) rfl (Zl 1 rfl (tk rfl (PE.nilCheck rfl) rfl (tk rfl (PE.fA Zw rfl) rfl (ld rfl rfl (lh Z0O rfl rfl) rfl ?_)))))))
 refine tkE rfl (PE.shrU rfl rfl (by decide) (by omega) (by omega)) rfl ?_
 rintro _ ⟨u67,rfl,hu67⟩
 refine tkE rfl (PE.xorU rfl rfl) rfl ?_
 rintro _ ⟨u68,rfl,hu68⟩
 refine tkE rfl (PE.shrU rfl rfl (by decide) (by omega) (by omega)) rfl ?_
 rintro _ ⟨u69,rfl,hu69⟩
 refine tkE rfl (PE.andU rfl rfl (by decide) (by decide)) rfl ?_
 rintro _ ⟨u70,rfl,hu70⟩
 refine tk rfl (PE.conv64 Z5V ik3 rfl (by omega)) rfl (Zl 1 rfl (Z4 ?_))
 first
   | exact rtA rfl rfl rfl ⟨u70,_,hu70,rfl,hu56,rfl,rfl⟩ idH
   | exact rtA rfl rfl rfl ⟨u70,_,hu70,rfl,hu30,rfl,rfl⟩ idH
   | exact rtA rfl rfl rfl ⟨u70,_,hu70,rfl,hmx,rfl,rfl⟩ idH
 refine Z1 (Z0 ?_)
 refine Zb [0,1,3,7,0,16,48,112,240,511,1023,2047,4095,8191] (tks 0 3 (.ld 3 (tks 4 3 (.ld 7 (tks 8 6 .done))))) Zo (by kernel_rfl) ?_
 refine Zl 1 rfl (tk rfl (PE.nilCheck rfl) rfl (tk rfl (PE.fA Zw rfl) rfl (ld rfl rfl (lh Z0O rfl rfl) rfl (Zl 1 rfl (tk rfl (PE.nilCheck rfl) rfl (tk rfl (PE.fA Zw rfl) rfl (ld rfl rfl (lh Z0O rfl rfl) rfl ?_)))))))
 refine tkE rfl (PE.shrU rfl rfl (by decide) (by omega) (by omega)) rfl ?_
 rintro _ ⟨u67,rfl,hu67⟩
 refine tkE rfl (PE.xorU rfl rfl) rfl ?_
 rintro _ ⟨u68,rfl,hu68⟩
 refine tkE rfl (PE.shrU rfl rfl (by decide) (by omega) (by omega)) rfl ?_
 rintro _ ⟨u69,rfl,hu69⟩
 refine tkE rfl (PE.andU rfl rfl (by decide) (by decide)) rfl ?_
 rintro _ ⟨u70,rfl,hu70⟩
 refine tk rfl (PE.conv64 Z5V ik3 rfl (by omega)) rfl (Zl 1 rfl (Z4 ?_))
 first
   | exact rtA rfl rfl rfl ⟨u70,_,hu70,rfl,hu56,rfl,rfl⟩ idH
   | exact rtA rfl rfl rfl ⟨u70,_,hu70,rfl,hu30,rfl,rfl⟩ idH
   | exact rtA rfl rfl rfl ⟨u70,_,hu70,rfl,hmx,rfl,rfl⟩ idH
 refine Z1 (sqt 8 rfl (pur 1 rfl (sp rfl (PE.nilCheck rfl) rfl (sp rfl (PE.fA Z08 rfl) rfl (spL rfl rfl (lh sc3 rfl rfl) rfl (sp rfl (PE.add rfl rfl (by omega)) rfl (sp rfl (PE.nilCheck rfl) rfl (sp rfl (PE.fA Z08 rfl) rfl ?_))))))))
 refine sto rfl rfl rfl cn3 rfl rfl rfl rfl ?_
 refine Z0 (Z0 ?_)
 refine Zb [0,1,3,7,0,16,48,112,240,511] (tks 0 3 (.ld 3 (tks 4 3 (.ld 7 (.tk 8 (.tk 9 .done)))))) Zo (by kernel_rfl) ?_
 refine Zl 1 rfl (tk rfl (PE.nilCheck rfl) rfl (tk rfl (PE.fA Z08 rfl) rfl (ld rfl rfl (lh sc3 rfl rfl) rfl (Zl 1 rfl (tk rfl (PE.nilCheck rfl) rfl (tk rfl (PE.fA Z19 rfl) rfl (ld rfl rfl (lh Zdc rfl rfl) rfl (tk rfl (PE.lenSl Z5v rfl) rfl (Zl 1 rfl ?_)))))))))
 refine Z2 rfl ?_ ?_<;>intro hc1<;>try simp only [cS] at hc1
 refine sqr 10 rfl (pur 2 rfl (sp rfl (PE.nilCheck rfl) rfl (sp rfl (PE.fA Zw rfl) rfl (spL rfl rfl (lh Z0O rfl rfl) rfl ?_))))
 refine spE rfl (PE.mulU rfl rfl) rfl ?_
 rintro _ ⟨u55,rfl,hu55⟩
 refine spE rfl (PE.addU rfl rfl) rfl ?_
 rintro _ ⟨u56,rfl,hu56⟩
 refine sp rfl (PE.nilCheck rfl) rfl (sp rfl (PE.fA Zw rfl) rfl ?_)
 refine sto rfl rfl rfl Z7e rfl rfl rfl rfl ?_
 refine Z0 ?_
 refine Zb [0,1,3,7,0,16,48,112,240,511,1023,2047,4095,8191] (tks 0 3 (.ld 3 (tks 4 3 (.ld 7 (tks 8 6 .done))))) Zo (by kernel_rfl) ?_
 refine Zl 1 rfl (tk rfl (PE.nilCheck rfl) rfl (tk rfl (PE.fA Zw rfl) rfl (ld rfl rfl (lh Z0O rfl rfl) rfl (Zl 1 rfl (tk rfl (PE.nilCheck rfl) rfl (tk rfl (PE.fA Zw rfl) rfl (ld rfl rfl (lh Z0O rfl rfl) rfl ?_)))))))
 refine tkE rfl (PE.shrU rfl rfl (by decide) (by omega) (by omega)) rfl ?_
 rintro _ ⟨u67,rfl,hu67⟩
 refine tkE rfl (PE.xorU rfl rfl) rfl ?_
 rintro _ ⟨u68,rfl,hu68⟩
 refine tkE rfl (PE.shrU rfl rfl (by decide) (by omega) (by omega)) rfl ?_
 rintro _ ⟨u69,rfl,hu69⟩
 refine tkE rfl (PE.andU rfl rfl (by decide) (by decide)) rfl ?_
 rintro _ ⟨u70,rfl,hu70⟩
 refine tk rfl (PE.conv64 Z5V ik3 rfl (by omega)) rfl (Zl 1 rfl (Z4 ?_))
 first
   | exact rtA rfl rfl rfl ⟨u70,_,hu70,rfl,hu56,rfl,rfl⟩ idH
   | exact rtA rfl rfl rfl ⟨u70,_,hu70,rfl,hu30,rfl,rfl⟩ idH
   | exact rtA rfl rfl rfl ⟨u70,_,hu70,rfl,hmx,rfl,rfl⟩ idH
 refine Z1 (Z0 ?_)
 refine Zb [0,1,3,7,0,16,48,112,240,511,1023,2047,4095,8191] (tks 0 3 (.ld 3 (tks 4 3 (.ld 7 (tks 8 6 .done))))) Zo (by kernel_rfl) ?_
 refine Zl 1 rfl (tk rfl (PE.nilCheck rfl) rfl (tk rfl (PE.fA Zw rfl) rfl (ld rfl rfl (lh Z0O rfl rfl) rfl (Zl 1 rfl (tk rfl (PE.nilCheck rfl) rfl (tk rfl (PE.fA Zw rfl) rfl (ld rfl rfl (lh Z0O rfl rfl) rfl ?_)))))))
 refine tkE rfl (PE.shrU rfl rfl (by decide) (by omega) (by omega)) rfl ?_
 rintro _ ⟨u67,rfl,hu67⟩
 refine tkE rfl (PE.xorU rfl rfl) rfl ?_
 rintro _ ⟨u68,rfl,hu68⟩
 refine tkE rfl (PE.shrU rfl rfl (by decide) (by omega) (by omega)) rfl ?_
 rintro _ ⟨u69,rfl,hu69⟩
 refine tkE rfl (PE.andU rfl rfl (by decide) (by decide)) rfl ?_
 rintro _ ⟨u70,rfl,hu70⟩
 refine tk rfl (PE.conv64 Z5V ik3 rfl (by omega)) rfl (Zl 1 rfl (Z4 ?_))
 first
   | exact rtA rfl rfl rfl ⟨u70,_,hu70,rfl,hu56,rfl,rfl⟩ idH
   | exact rtA rfl rfl rfl ⟨u70,_,hu70,rfl,hu30,rfl,rfl⟩ idH
   | exact rtA rfl rfl rfl ⟨u70,_,hu70,rfl,hmx,rfl,rfl⟩ idH
theorem c_Below (g:List Int) (ag:Option Addr) (cg bk:Nat) (hgl:g.length≤9223372036854775807) (tq mx:Int) (htq:0≤tq∧tq≤1000000000) (hmx:0≤mx∧mx≤4294967295) (n:Int) (H:Z8) (R:Z5) [hG:MemRows ag 1 (urows g) R] :
    Fn Tryz.prog 21 [.pointer (some ⟨bk,0,none⟩),.int .i64 n] ((bk,cel 111 [.slice ag g.length cg,.int .i64 (tq),.int .u32 (mx)])::H) R (fun v H' R'=>∃ x m':Int,(0≤x∧x<max 1 n)∧v = .int .i64 x∧(0≤m'∧m'≤4294967295)∧H'=(bk,cel 111 [.slice ag g.length cg,.int .i64 (tq+1),.int .u32 (m')])::H∧R'=R):=by
 refine Ze Tryz.func21 rfl Tryz.ntmps21 rfl ?_
 refine sqt 1 rfl (pur 1 rfl (sqt 6 rfl (pur 1 rfl ?_)))
 refine cl rfl ZeR rfl rfl (Z3U g ag cg bk hgl tq mx htq hmx _ _) ?_
 rintro _ _ _ ⟨x,m',hx,rfl,hm',rfl,rfl⟩
 refine pur 1 rfl (sp rfl (PE.max rfl rfl) rfl (sp rfl (PE.rem rfl rfl (by omega)) rfl (pur 1 rfl (Z4 ?_))))
 exact rtA rfl rfl rfl ⟨_,m',⟨Int.emod_nonneg _ (by omega),Int.emod_lt_of_pos _ (by omega)⟩,rfl,hm',rfl,rfl⟩ idH
theorem c_Among (g:List Int) (ag:Option Addr) (cg bk:Nat) (hgl:g.length≤9223372036854775807) (tq mx:Int) (htq:0≤tq∧tq≤1000000000) (hmx:0≤mx∧mx≤4294967295) (lo hi:Int) (hb : -1000000≤lo∧lo≤1000000 ∧ -1000000≤hi∧hi≤1000000) (H:Z8) (R:Z5) [hG:MemRows ag 1 (urows g) R] :
    Fn Tryz.prog 15 [.pointer (some ⟨bk,0,none⟩),.int .i64 lo,.int .i64 hi] ((bk,cel 111 [.slice ag g.length cg,.int .i64 (tq),.int .u32 (mx)])::H) R (fun v H' R'=>∃ x m':Int,(lo≤x∧x<lo+max 1 (hi-lo+1))∧v = .int .i64 x∧(0≤m'∧m'≤4294967295)∧H'=(bk,cel 111 [.slice ag g.length cg,.int .i64 (tq+1),.int .u32 (m')])::H∧R'=R):=by
 refine Ze Tryz.func15 rfl Tryz.ntmps15 rfl ?_
 refine sqt 1 rfl (pur 1 rfl (sqt 9 rfl (pur 4 rfl (sp rfl (PE.sub rfl rfl (by omega)) rfl (sp rfl (PE.add rfl rfl (by omega)) rfl ?_)))))
 refine cl rfl Z30 rfl rfl (c_Below g ag cg bk hgl tq mx htq hmx (hi-lo+1) _ _) ?_
 rintro _ _ _ ⟨x,m',hx,rfl,hm',rfl,rfl⟩
 refine sp rfl (PE.add rfl rfl (by omega)) rfl (pur 1 rfl (Z4 ?_))
 exact rtA rfl rfl rfl ⟨lo+x,m',⟨by omega,by omega⟩,rfl,hm',rfl,rfl⟩ idH
theorem c_Rare (g:List Int) (ag:Option Addr) (cg bk:Nat) (hgl:g.length≤9223372036854775807) (tq mx:Int) (htq:0≤tq∧tq≤1000000000) (hmx:0≤mx∧mx≤4294967295) (n:Int) (H:Z8) (R:Z5) [hG:MemRows ag 1 (urows g) R] :
    Fn Tryz.prog 30 [.pointer (some ⟨bk,0,none⟩),.int .i64 n] ((bk,cel 111 [.slice ag g.length cg,.int .i64 (tq),.int .u32 (mx)])::H) R (fun v H' R'=>∃ (x:Bool) (m':Int),v = .bool x∧(0≤m'∧m'≤4294967295)∧H'=(bk,cel 111 [.slice ag g.length cg,.int .i64 (tq+1),.int .u32 (m')])::H∧R'=R):=by
 refine Ze Tryz.func30 rfl Tryz.ntmps30 rfl ?_
 refine sqt 1 rfl (pur 1 rfl (sqt 5 rfl (pur 2 rfl ?_)))
 refine cl rfl Z30 rfl rfl (c_Below g ag cg bk hgl tq mx htq hmx n _ _) ?_
 rintro _ _ _ ⟨x,m',hx,rfl,hm',rfl,rfl⟩
 refine pur 2 rfl (Z4 ?_)
 exact rtA rfl rfl rfl ⟨_,m',rfl,hm',rfl,rfl⟩ idH
structure MadeW (h:Hse) (nb ng:Int):Prop where
 bins:2≤h.bins∧h.bins≤nb
 gl:(h.gaps.length:Int)≤ng
 gaps:∀ g∈h.gaps,(0≤g.a∧g.a<h.bins)∧(0≤g.b∧g.b<h.bins)∧g.a≠g.b
 none:h.sights=[]
theorem MadeW.ok {h:Hse} {nb ng:Int} (hm:MadeW h nb ng) (h1:nb≤7) (h2:ng≤10):h.ok:=⟨by have:=hm.bins;omega,by have:=hm.gl;omega,by rw [hm.none];exact Nat.zero_le _,hm.gaps,by rw [hm.none];simp⟩
def ini (f:Nat→Int) (n k:Nat):List Int:=(List.range n).map fun j=>bif decide (j<k) then f j else 0
theorem Zfn (f:Nat→Int) (n k:Nat):(ini f n k).length=n:=by simp [ini]
theorem Zi3 {f:Nat→Int} {n k j:Nat} (hj:j<n):na (ini f n k) j=bif decide (j<k) then f j else 0:=by
 unfold na ini
 rw [List.getD_eq_getElem?_getD,List.getElem?_map,List.getElem?_range hj];rfl
def in0 (fr:List Int) (j:Nat):Int:=bif hasI fr j then 0 else 100
theorem Zfl {l:List Int} (h:∀ x∈l,0≤x) (j:Nat):hasI l (j:Int)=(msk l).testBit j:=by rw [Bool.eq_iff_iff,hasI_iff,ZN h]
theorem FolI.start {gs:List Gp} {cl:Nat→Nat} {fr:List Int} (h:∀ x∈fr,0≤x) (n:Nat):FolI gs cl (msk fr) n 0 (Z72 gs (cl 0) (lvp gs cl (msk fr) 0) 0) (ini (in0 fr) n n):=⟨Zfn _ _ _,fun k hk=>by
 rw [Zi3 hk,decide_eq_true hk,cond_true]
 unfold in0
 rw [Zfl h]
 show _=bif (msk fr).testBit k then fol gs cl (msk fr) 0 k else bif (msk fr).testBit k then _ else 100
 cases hb:(msk fr).testBit k with
 | false=>rfl
 | true =>
   rw [cond_true,cond_true]
   exact (ZaF (t:=0) (Nat.le_refl _) hb (fun i hi=>absurd hi (Nat.not_lt_zero _))).symm⟩
theorem Tru.nil (h:Hse) (l:List Int):Tru h l []:=⟨(fun s hs=>by cases hs),rfl⟩
theorem c_CutK (h:Hse) (ag as_:Option Addr) (cg cs:Nat) (hok:h.ok) (fr to_:List Int) (af at_:Option Addr) (cf ct:Nat) (hlf:fr.length≤1000000) (hlt:to_.length≤1000000) (hfc:fr.length≤cf) (htc:to_.length≤ct) (hb:h.botE fr to_=0) (H:Z8) (R:Z5) [hG:MemRows ag 2 (grows h.gaps) R] [hS:MemRows as_ 3 (srows h.sights) R] [hF:MemRows af 1 (irows fr) R] [hT:MemRows at_ 1 (irows to_) R]:Fn Tryz.prog 33 [h.v (h.sg ag cg) (h.ss as_ cs),.slice af fr.length cf,.slice at_ to_.length ct] H R (fun v H' R'=>∃ (X:Nat) (a:Option Addr) (c:Nat),Cut h.gaps (msk fr) (msk to_) (cutM X h.gaps).length∧Shut h.gaps (msk (cutM X h.gaps)) (msk fr) (msk to_)∧(cutM X h.gaps).length≤c∧v = .tuple #[.slice a (cutM X h.gaps).length c,.int .i64 0]∧H'=H∧R'=RowsA a 1 (irows (cutM X h.gaps))::R):=fun w hw=>by
 refine CallsIn.mono (Zje h ag as_ cg cs (by have:=hok.gl;omega) (by have:=hok.sl;omega) fr to_ af at_ cf ct hlf hlt hfc htc H R w hw) ?_
 rintro e' w' ⟨u,H',R',⟨rfl,hq⟩,he,hs'⟩
 rcases hq with ⟨h1,_⟩ | ⟨_,f,V,a,c,h2,h3,h4,rfl,rfl⟩
 · exact absurd hb h1
 · obtain ⟨h5,h6⟩:=h3.cut (ZeE (Z7U hb)) h2
   exact ⟨_,_,_,⟨Z22 V,a,c,h5,h6,h4,rfl,rfl,rfl⟩,he,hs'⟩
end Go.Proofs.YtcfdanhklbklkaaGreat.Wv
namespace Go.Proofs.YtcfdanhklbklkaaGreat.Tu
set_option linter.unusedSimpArgs false
set_option linter.unusedVariables false
structure TLot where
 sk:Int
 in_:Int
 to:Int
structure TBn where
 sizes:List Int
 lots:List TLot
def na (l:List Int) (k:Nat):Int:=l.getD k 0
theorem na_get {l:List Int} {k:Nat} (h:k<l.length):l[k]?=some (na l k):=by
 unfold na;rw [List.getD_eq_getElem?_getD,List.getElem?_eq_getElem h];rfl
theorem Zb4 {l:List Int} {k:Nat} {x:Int} (h:l[k]?=some x):na l k=x:=by
 unfold na;rw [List.getD_eq_getElem?_getD,h];rfl
def TBn.lot (b:TBn) (i:Nat):TLot:=b.lots.getD i ⟨0,0,0⟩
theorem TBn.lot_get {b:TBn} {i:Nat} (h:i<b.lots.length):b.lots[i]?=some (b.lot i):=by
 unfold TBn.lot;rw [List.getD_eq_getElem?_getD,List.getElem?_eq_getElem h];rfl
def TBn.fits (b:TBn) (k i:Nat):Bool:=decide ((b.lot i).sk≤na b.sizes k)
structure TBn.ok (b:TBn):Prop where
 nb:1≤b.sizes.length∧b.sizes.length≤7
 nl:b.lots.length≤6
 sz:∀ x∈b.sizes,0≤x∧x≤300
 sk:∀ x∈b.lots,1≤x.sk∧x.sk≤300
 ins:∀ x∈b.lots,(0≤x.in_∧x.in_<b.sizes.length)∧(x.to = -1∨0≤x.to∧x.to<b.sizes.length)
 ne:∀ (i j:Nat) (x y:TLot),b.lots[i]?=some x→b.lots[j]?=some y→j<i→x.in_≠y.in_∧(x.to=y.to→x.to = -1)
 hold:∀ (i:Nat) x,b.lots[i]?=some x→b.fits x.in_.toNat i=true∧(x.to ≠ -1→b.fits x.to.toNat i=true)
def TBn.tkn (b:TBn) (p:List Int) (k:Int):Bool:=(List.range b.lots.length).any fun i=>decide (na p i=k)
def TBn.mds (b:TBn) (p:List Int):Bool:=(List.range b.lots.length).all fun i=>decide ((b.lot i).to = -1)||decide ((b.lot i).to=na p i)
def TBn.first (b:TBn):List Int:=b.lots.map (·.in_)++List.replicate (6-b.lots.length) 0
theorem TBn.first_len {b:TBn} (h:b.lots.length≤6):b.first.length=6:=by unfold TBn.first;simp;omega
def TBn.mv1 (b:TBn) (p:List Int) (k:Nat):List (Int×Int):=bif b.tkn p (k:Int) then [] else ((List.range b.lots.length).filter (b.fits k)).map fun (i:Nat)=>((i:Int),(k:Int))
def TBn.mvN (b:TBn) (p:List Int):Nat→List (Int×Int)
 | 0=>[]
 | k+1=>b.mvN p k++b.mv1 p k
def TBn.mvs (b:TBn) (p:List Int):List (Int×Int):=b.mvN p b.sizes.length
def app (p:List Int) (l:List (Int×Int)):List Int:=l.foldl (fun p t=>p.set t.1.toNat t.2) p
theorem Z9C (l:List (Int×Int)):∀ p,(app p l).length=p.length:=by
 induction l with
 | nil=>intro p;rfl
 | cons t l ih=>intro p;show (app (p.set t.1.toNat t.2) l).length=_;rw [ih,List.length_set]
structure Rec where
 q:List Int
 fr:List Int
 by_:List (Int×Int)
 d:Nat
 a:Option Go.Addr
 c:Nat
def rst (x0:List Int):Rec:=⟨x0,List.replicate 6 0,[],0,none,0⟩
abbrev Edg:=List Int→List (List (Int×Int))
def Pth (ed:Edg):Nat→List Int→List Int→Prop
 | 0,a,b=>a=b
 | k+1,a,b=>∃ c,Pth ed k a c∧∃ l∈ed c,b=app c l
structure BI (ed:Edg) (md:List Int→Bool) (x0:List Int) (ws pend:List Rec):Prop where
 nd:(ws.map (·.q)).Nodup
 st:rst x0∈ws
 fr:∀ r∈ws,r=rst x0∨∃ s∈ws,s.q=r.fr∧r.d=s.d+1∧r.by_∈ed s.q∧r.q=app s.q r.by_
 pn:∀ r∈pend,r∈ws
 pnd:pend.Nodup
 cl:∀ r∈ws,r∉pend→md r.q=false∧∀ l∈ed r.q,∃ s∈ws,s.q=app r.q l∧s.d≤r.d+1
 srt:pend.Pairwise fun r s=>r.d≤s.d
 top:∀ r∈ws,∀ s∈pend,r.d≤s.d+1
structure BJ (ed:Edg) (md:List Int→Bool) (x0:List Int) (ws pend:List Rec) (rc:Rec) (dl:List (List (Int×Int))):Prop where
 nd:(ws.map (·.q)).Nodup
 st:rst x0∈ws
 fr:∀ r∈ws,r=rst x0∨∃ s∈ws,s.q=r.fr∧r.d=s.d+1∧r.by_∈ed s.q∧r.q=app s.q r.by_
 pn:∀ r∈pend,r∈ws
 pnd:pend.Nodup
 r0:rc∈ws
 r0p:rc∉pend
 r0m:md rc.q=false
 dn:∀ l∈dl,∃ s∈ws,s.q=app rc.q l∧s.d≤rc.d+1
 cl:∀ r∈ws,r∉pend→r≠rc→md r.q=false∧∀ l∈ed r.q,∃ s∈ws,s.q=app r.q l∧s.d≤r.d+1
 srt:pend.Pairwise fun r s=>r.d≤s.d
 low:∀ s∈pend,rc.d≤s.d
 top:∀ r∈ws,r.d≤rc.d+1
theorem BI.start {ed:Edg} {md:List Int→Bool} (x0:List Int):BI ed md x0 [rst x0] [rst x0]:=⟨by simp,by simp,fun r h=>.inl (List.mem_singleton.1 h),fun r h=>h,by simp,fun r h h2=>absurd h h2,List.pairwise_singleton _ _,fun r h s _=>by rw [List.mem_singleton.1 h];exact Nat.zero_le _⟩
theorem BI.uniq {ed:Edg} {md:List Int→Bool} {x0:List Int} {ws pend:List Rec} (h:BI ed md x0 ws pend) {r s:Rec} (hr:r∈ws) (hs:s∈ws) (e:r.q=s.q):r=s:=by
 have hn:=h.nd
 clear h
 induction ws with
 | nil=>cases hr
 | cons x ws ih =>
   rw [List.map_cons,List.nodup_cons] at hn
   rcases List.mem_cons.1 hr with h1 | h1
   · rcases List.mem_cons.1 hs with h2 | h2
     · rw [h1,h2]
     · exact absurd (List.mem_map.2 ⟨s,h2,by rw [← e,h1]⟩) hn.1
   · rcases List.mem_cons.1 hs with h2 | h2
     · exact absurd (List.mem_map.2 ⟨r,h1,by rw [e,h2]⟩) hn.1
     · exact ih h1 h2 hn.2
theorem BI.pop {ed:Edg} {md:List Int→Bool} {x0:List Int} {ws pend:List Rec} {r:Rec} (h:BI ed md x0 ws (r::pend)) (hm:md r.q=false):BJ ed md x0 ws pend r []:=⟨h.nd,h.st,h.fr,fun s hs=>h.pn s (by simp [hs]),(List.nodup_cons.1 h.pnd).2,h.pn r (by simp),(List.nodup_cons.1 h.pnd).1,hm,fun l hl=>(by cases hl),fun s hs h1 h2=>h.cl s hs (fun h3=>by rcases List.mem_cons.1 h3 with h3 | h3;exact h2 h3;exact h1 h3),(List.pairwise_cons.1 h.srt).2,(List.pairwise_cons.1 h.srt).1,fun s hs=>h.top s hs r (by simp)⟩
theorem BJ.skip {ed:Edg} {md:List Int→Bool} {x0:List Int} {ws pend:List Rec} {r:Rec} {dn:List (List (Int×Int))} (h:BJ ed md x0 ws pend r dn) {l:List (Int×Int)} {s:Rec} (hs:s∈ws) (e:s.q=app r.q l):BJ ed md x0 ws pend r (dn++[l]):=⟨h.nd,h.st,h.fr,h.pn,h.pnd,h.r0,h.r0p,h.r0m,fun l' hl=>(by
 rcases List.mem_append.1 hl with hl | hl
 · exact h.dn l' hl
 · rw [List.mem_singleton.1 hl];exact ⟨s,hs,e,h.top s hs⟩),h.cl,h.srt,h.low,h.top⟩
theorem BJ.more {ed:Edg} {md:List Int→Bool} {x0:List Int} {ws pend:List Rec} {r:Rec} {dn:List (List (Int×Int))} (h:BJ ed md x0 ws pend r dn) {l:List (Int×Int)} (hl:l∈ed r.q) (hn:∀ s∈ws,s.q≠app r.q l) (na:Option Go.Addr) (nc:Nat):BJ ed md x0 (ws++[⟨app r.q l,r.q,l,r.d+1,na,nc⟩]) (pend++[⟨app r.q l,r.q,l,r.d+1,na,nc⟩]) r (dn++[l]):=by
 have hnew:∀ s∈ws,s≠⟨app r.q l,r.q,l,r.d+1,na,nc⟩:=fun s hs e=>hn s hs (by rw [e])
 refine ⟨?_,by simp [h.st],fun s hs=>?_,fun s hs=>?_,?_,by simp [h.r0],fun hs=>?_,h.r0m,fun l' hl'=>?_,fun s hs h1 h2=>?_,?_,fun s hs=>?_,fun s hs=>?_⟩
 · rw [List.map_append,List.nodup_append]
   exact ⟨h.nd,by simp,fun a ha b hb e=>by
     obtain ⟨s,hs,rfl⟩:=List.mem_map.1 ha
     rw [List.map_singleton,List.mem_singleton] at hb
     exact hn s hs (e.trans hb)⟩
 · rcases List.mem_append.1 hs with hs | hs
   · rcases h.fr s hs with h1 | ⟨u,hu,h1⟩
     · exact .inl h1
     · exact .inr ⟨u,by simp [hu],h1⟩
   · rw [List.mem_singleton.1 hs]
     exact .inr ⟨r,by simp [h.r0],rfl,rfl,hl,rfl⟩
 · rcases List.mem_append.1 hs with hs | hs
   · exact List.mem_append.2 (.inl (h.pn s hs))
   · exact List.mem_append.2 (.inr hs)
 · rw [List.nodup_append]
   exact ⟨h.pnd,by simp,fun a ha b hb e=>hnew a (h.pn a ha) (by rw [e];exact List.mem_singleton.1 hb)⟩
 · rcases List.mem_append.1 hs with hs | hs
   · exact h.r0p hs
   · exact hnew r h.r0 (List.mem_singleton.1 hs)
 · rcases List.mem_append.1 hl' with hl' | hl'
   · obtain ⟨u,hu,h1⟩:=h.dn l' hl'
     exact ⟨u,by simp [hu],h1⟩
   · rw [List.mem_singleton.1 hl'];exact ⟨⟨app r.q l,r.q,l,r.d+1,na,nc⟩,List.mem_append.2 (.inr (List.mem_singleton.2 rfl)),rfl,Nat.le_refl _⟩
 · rcases List.mem_append.1 hs with hs | hs
   · obtain ⟨h3,h4⟩:=h.cl s hs (fun h5=>h1 (by simp [h5])) h2
     refine ⟨h3,fun l' hl'=>?_⟩
     obtain ⟨u,hu,h5⟩:=h4 l' hl'
     exact ⟨u,by simp [hu],h5⟩
   · exact absurd (List.mem_append.2 (.inr hs)) h1
 · rw [List.pairwise_append]
   refine ⟨h.srt,List.pairwise_singleton _ _,fun a ha b hb=>?_⟩
   rw [List.mem_singleton.1 hb]
   exact h.top a (h.pn a ha)
 · rcases List.mem_append.1 hs with hs | hs
   · exact h.low s hs
   · rw [List.mem_singleton.1 hs];exact Nat.le_succ _
 · rcases List.mem_append.1 hs with hs | hs
   · exact h.top s hs
   · rw [List.mem_singleton.1 hs];exact Nat.le_refl _
theorem BJ.done {ed:Edg} {md:List Int→Bool} {x0:List Int} {ws pend:List Rec} {r:Rec} (h:BJ ed md x0 ws pend r (ed r.q)):BI ed md x0 ws pend:=⟨h.nd,h.st,h.fr,h.pn,h.pnd,fun s hs h1=>by
 by_cases e:s=r
 · subst e;exact ⟨h.r0m,h.dn⟩
 · exact h.cl s hs h1 e,h.srt,fun s hs u hu=>by have:=h.top s hs;have:=h.low u hu;omega⟩
theorem BI.path {ed:Edg} {md:List Int→Bool} {x0:List Int} {ws pend:List Rec} (h:BI ed md x0 ws pend):∀ (n:Nat) (r:Rec),r∈ws→r.d=n→Pth ed n x0 r.q
 | n,r,hr,hd=>by
   rcases h.fr r hr with h1 | ⟨s,hs,h1,h2,h3,h4⟩
   · subst h1;subst hd;rfl
   · obtain ⟨m,rfl⟩:∃ m,n=m+1:=⟨s.d,by omega⟩
     exact ⟨s.q,h.path m s hs (by omega),r.by_,h3,h4⟩
theorem BI.near {ed:Edg} {md:List Int→Bool} {x0:List Int} {ws pend:List Rec} (h:BI ed md x0 ws pend):∀ (k:Nat) (x:List Int),Pth ed k x0 x→(∃ s∈ws,s.q=x∧s.d≤k)∨∃ r∈pend,r.d<k
 | 0,x,hx=>by
   have hx:x0=x:=hx
   subst hx;exact .inl ⟨_,h.st,rfl,Nat.le_refl _⟩
 | k+1,x,⟨c,hc,l,hl,e⟩=>by
   rcases h.near k c hc with ⟨s,hs,h1,h2⟩ | ⟨r,hr,h1⟩
   · by_cases hp:s∈pend
     · exact .inr ⟨s,hp,by omega⟩
     · obtain ⟨_,h4⟩:=h.cl s hs hp
       subst h1
       obtain ⟨u,hu,h5,h6⟩:=h4 l hl
       exact .inl ⟨u,hu,h5.trans e.symm,by omega⟩
   · exact .inr ⟨r,hr,by omega⟩
theorem BI.least {ed:Edg} {md:List Int→Bool} {x0:List Int} {ws pend:List Rec} {r:Rec} (h:BI ed md x0 ws (r::pend)) {k:Nat} {x:List Int} (hx:Pth ed k x0 x) (hm:md x=true):r.d≤k:=by
 have hlow:∀ s∈r::pend,r.d≤s.d:=fun s hs=>by
   rcases List.mem_cons.1 hs with h1 | h1
   · rw [h1];exact Nat.le_refl _
   · exact (List.pairwise_cons.1 h.srt).1 s h1
 rcases h.near k x hx with ⟨s,hs,h1,h2⟩ | ⟨s,hs,h1⟩
 · by_cases hp:s∈r::pend
   · have:=hlow s hp;omega
   · have h3:=(h.cl s hs hp).1
     rw [h1,hm] at h3;cases h3
 · have:=hlow s hs;omega
theorem BI.none {ed:Edg} {md:List Int→Bool} {x0:List Int} {ws:List Rec} (h:BI ed md x0 ws []) {k:Nat} {x:List Int} (hx:Pth ed k x0 x):md x=false:=by
 rcases h.near k x hx with ⟨s,hs,h1,h2⟩ | ⟨s,hs,h1⟩
 · rw [← h1];exact (h.cl s hs (fun h3=>by cases h3)).1
 · cases hs
def Zev:Nat→List (List Int)
 | 0=>[[]]
 | n+1=>(Zev n).flatMap fun l=>[0,1,2,3,4,5,6].map fun x=>x::l
theorem Z7S:∀ n,(Zev n).length=7 ^ n
 | 0=>rfl
 | n+1=>by
   have ih:=Z7S n
   unfold Zev
   rw [List.length_flatMap,Nat.pow_succ,← ih]
   have:∀ m:List (List Int),(m.map fun l=>([0,1,2,3,4,5,6].map fun x:Int=>x::l).length).sum=m.length*7:=fun m=>by
     induction m with
     | nil=>rfl
     | cons a m ih=>rw [List.map_cons,List.sum_cons,ih,List.length_cons];simp;omega
   exact this _
theorem Z7T:∀ {n:Nat} {l:List Int},l.length=n→(∀ x∈l,0≤x∧x<7)→l∈Zev n
 | 0,[],_,_=>by simp [Zev]
 | n+1,x::l,h,hx=>by
   have ih:=Z7T (n:=n) (l:=l) (by simpa using h) (fun y hy=>hx y (by simp [hy]))
   unfold Zev
   refine List.mem_flatMap.2 ⟨l,ih,List.mem_map.2 ⟨x,?_,rfl⟩⟩
   have:=hx x (by simp)
   simp only [List.mem_cons,List.not_mem_nil,or_false]
   omega
theorem Z14 {α:Type} [DecidableEq α]:∀ {l m:List α},l.Nodup→(∀ x∈l,x∈m)→l.length≤m.length
 | [],m,_,_=>Nat.zero_le _
 | x::l,m,hn,hs=>by
   obtain ⟨h1,h2⟩:=List.nodup_cons.1 hn
   have ih:=Z14 (l:=l) (m:=m.erase x) h2 (fun y hy=>(List.mem_erase_of_ne (fun e=>h1 (by rw [← e];exact hy))).2 (hs y (by simp [hy])))
   rw [List.length_erase_of_mem (hs x (by simp))] at ih
   have:=List.length_pos_of_mem (hs x (by simp))
   rw [List.length_cons];omega
def TBn.inS (b:TBn) (p:List Int):Prop:=p.length=6∧∀ x∈p,0≤x∧x<(b.sizes.length:Int)
theorem Z0y {b:TBn} (hb:b.ok) {ws:List Rec} (hn:(ws.map (·.q)).Nodup) (hi:∀ r∈ws,b.inS r.q):ws.length≤117649:=by
 have h:=Z14 (m:=Zev 6) hn (fun x hx=>by
   obtain ⟨r,hr,rfl⟩:=List.mem_map.1 hx
   obtain ⟨h1,h2⟩:=hi r hr
   refine Z7T h1 (fun y hy=>?_)
   have:=h2 y hy;have:=hb.nb;omega)
 rw [Z7S,List.length_map] at h
 exact h
theorem Z6q {b:TBn} (hb:b.ok):b.inS b.first:=⟨b.first_len hb.nl,fun x hx=>by
 rcases List.mem_append.1 hx with h | h
 · obtain ⟨l,hl,rfl⟩:=List.mem_map.1 h
   exact (hb.ins l hl).1
 · rw [(List.mem_replicate.1 h).2];have:=hb.nb;omega⟩
theorem Z74 {b:TBn}:∀ {l:List (Int×Int)} {p:List Int},b.inS p→(∀ t∈l,0≤t.2∧t.2<(b.sizes.length:Int))→b.inS (app p l)
 | [],p,h,_=>h
 | t :: l, p, h, hl => Z74 (l := l) (p := p.set t.1.toNat t.2) ⟨by rw [List.length_set]; exact h.1, fun x hx => by
     rcases List.mem_or_eq_of_mem_set hx with h1 | h1
     · exact h.2 x h1
     · rw [h1];exact hl t (by simp)⟩ (fun u hu=>hl u (by simp [hu]))
theorem Zfy {b:TBn} {p:List Int} {k:Nat} {t:Int×Int} (h:t∈b.mv1 p k):∃ i:Nat,t=((i:Int),(k:Int))∧i<b.lots.length∧b.fits k i=true∧b.tkn p (k:Int)=false:=by
 unfold TBn.mv1 at h
 cases hc:b.tkn p (k:Int) with
 | true=>rw [hc] at h;cases h
 | false =>
   rw [hc,cond_false] at h
   obtain ⟨i,hi,rfl⟩:=List.mem_map.1 h
   obtain ⟨h1,h2⟩:=List.mem_filter.1 hi
   exact ⟨i,rfl,List.mem_range.1 h1,h2,rfl⟩
theorem Zb1 {b:TBn} {p:List Int} {t:Int×Int}:∀ {n:Nat},t∈b.mvN p n→∃ i k:Nat,t=((i:Int),(k:Int))∧k<n∧i<b.lots.length∧b.fits k i=true∧b.tkn p (k:Int)=false
 | n+1,h=>by
   rcases List.mem_append.1 (show t∈b.mvN p n++b.mv1 p n from h) with h | h
   · obtain ⟨i,k,h1,h2,h3⟩:=Zb1 h
     exact ⟨i,k,h1,by omega,h3⟩
   · obtain ⟨i,h1,h2⟩:=Zfy h
     exact ⟨i,n,h1,by omega,h2⟩
open Go
theorem Z54:Z2a Tryz.prog 108=some 3:=by kernel_rfl
theorem Z65:Z2a Tryz.prog 26=some 2:=by kernel_rfl
theorem Z4K:cal Tryz.prog 148=true:=by kernel_rfl
theorem Z6b:cal Tryz.prog 224=true:=by kernel_rfl
theorem ZdD:cal Tryz.prog 234=true:=by kernel_rfl
theorem Zhl:cal Tryz.prog 267=true:=by kernel_rfl
theorem Zhm:cal Tryz.prog 268=true:=by kernel_rfl
theorem Zhn:cal Tryz.prog 269=true:=by kernel_rfl
theorem Zhq:cal Tryz.prog 278=true:=by kernel_rfl
theorem Zad:cal Tryz.prog 83=true:=by kernel_rfl
theorem Z1q:elN Tryz.prog 23=some 1:=by kernel_rfl
theorem Zf8:elN Tryz.prog 24=some 3:=by kernel_rfl
theorem Z44:ZY Tryz.prog 108 0=some 0:=by kernel_rfl
theorem Z45:ZY Tryz.prog 108 1=some 1:=by kernel_rfl
theorem Z0d:ZY Tryz.prog 108 2=some 2:=by kernel_rfl
theorem Z0K:ZY Tryz.prog 26 0=some 0:=by kernel_rfl
theorem Z0i:ZY Tryz.prog 26 1=some 1:=by kernel_rfl
theorem ZD:Z2y Tryz.prog 23=true:=by kernel_rfl
theorem Z2z:Z2y Tryz.prog 24=true:=by kernel_rfl
theorem Z4C:Z0h Tryz.prog 100=true:=by kernel_rfl
theorem Z26:Z0h Tryz.prog 23=true:=by kernel_rfl
theorem Z6Q:Z0h Tryz.prog 24=true:=by kernel_rfl
theorem sc3:Z0h Tryz.prog 3=true:=by kernel_rfl
theorem Zkb:Z0h Tryz.prog 340=true:=by kernel_rfl
@[reducible] def inR (n lo hi : Int) : Bool := decide (lo ≤ n) && decide (n ≤ hi)
theorem Zfm {n lo hi:Int} (h:lo≤n∧n≤hi):inR n lo hi=true:=by simp [inR,h]
def irow (z:Int):List Value:=[.int .i64 z]
abbrev irows (l:List Int):List (List Value):=l.map irow
def trow (x:TLot):List Value:=[.int .i64 x.sk,.int .i64 x.in_,.int .i64 x.to]
abbrev trows (l:List TLot):List (List Value):=l.map trow
def brl (y:TBn) (a1 a2:Option Addr) (k1 k2:Nat):List Value:=[.slice a1 y.sizes.length k1,.slice a2 y.lots.length k2]
def TBn.v (y:TBn) (a1 a2:Option Addr) (k1 k2:Nat):Value:=.agg (brl y a1 a2 k1 k2).toArray
theorem ir_get {l:List Int} {k:Nat} {x:Int} (h:l[k]?=some x):(irows l)[k]?=some [.int .i64 x]:=by simp [irows,irow,h]
theorem Z1M {l:List TLot} {k:Nat} {x:TLot} (h:l[k]?=some x):(trows l)[k]?=some (trow x):=by simp [trows,h]
theorem Z6 (l:List Int):(Za l).length=l.length:=by simp [Za]
theorem Z0z {l:List Int} {k:Nat} {v:Int} (h:l[k]?=some v):(Za l)[k]?=some (.int .i64 v):=by simp [Za,h]
theorem ZdY {A:List Int} {k i:Nat} (hk:k<A.length) (e:i=k):(Za A)[i]?=some (.int .i64 (na A k)):=by
 subst e;exact Z0z (na_get hk)
theorem TBn.lot_of {y:TBn} {i:Nat} {x:TLot} (h:y.lots[i]?=some x):y.lot i=x:=by
 unfold TBn.lot;rw [List.getD_eq_getElem?_getD,h];rfl
theorem ne_of_get {α:Type} {l:List α} {k:Nat} {x:α} (h:l[k]?=some x):l≠[]:=fun e=>by rw [e] at h;cases h
theorem Zy {α:Type} {xs:List α} {p:α→Bool} {k:Nat} {x:α} (hx:xs[k]?=some x) (hn:∀ y∈xs.take k,p y=false) (h:p x=true):xs.findIdx? p=some k:=by
 induction xs generalizing k with
 | nil=>simp at hx
 | cons y ys ih =>
   cases k with
   | zero=>simp only [List.getElem?_cons_zero,Option.some.injEq] at hx;subst hx;simp [List.findIdx?_cons,h]
   | succ k =>
     have hy:=hn y (by simp)
     have:=ih (by simpa using hx) (fun z hz=>hn z (by simp [hz]))
     simp [List.findIdx?_cons,hy,this]
theorem Zs {α:Type} {xs:List α} {p:α→Bool} (hn:∀ y∈xs,p y=false):xs.findIdx? p=none:=by
 rw [List.findIdx?_eq_none_iff];exact hn
theorem ZT {α:Type} {xs:List α} {p:α→Bool} {k:Nat} {x:α} (hx:xs[k]?=some x) (hn:∀ y∈xs.take k,p y=false) (h:p x=false):∀ y∈xs.take (k+1),p y=false:=by
 intro y hy
 rw [List.take_add_one,hx] at hy
 rcases List.mem_append.1 hy with h1 | h1
 · exact hn y h1
 · simp only [Option.toList_some,List.mem_singleton] at h1;subst h1;exact h
theorem Z0v {α:Type} (xs:List α) (p:α→Bool):Value.bool (decide (0≤(match xs.findIdx? p with | some k=>(k:Int) | none => -1))) = .bool (xs.any p):=by
 congr 1
 cases h:xs.findIdx? p with
 | none =>
   have:=List.findIdx?_eq_none_iff.1 h
   have h2:xs.any p=false:=by simpa using this
   rw [h2];rfl
 | some k =>
   have h2:xs.any p=true:=by
     rw [← Bool.not_eq_false];intro h3
     have:xs.findIdx? p=none:=List.findIdx?_eq_none_iff.2 (by simpa using h3)
     rw [this] at h;cases h
   rw [h2];simp
theorem ZQ {α:Type} (xs:List α) (p:α→Bool):Value.bool (!xs.any fun x=>!p x) = .bool (xs.all p):=by
 congr 1
 induction xs with
 | nil=>rfl
 | cons x xs ih=>simp [← ih]
theorem Z71 (n lo hi:Int) (H:Z8) (R:Z5) :
    FnV Tryz.prog 83 [.int .i64 n,.int .i64 lo,.int .i64 hi] H R (.bool (inR n lo hi)):=by
 refine Ze Tryz.func83 rfl Tryz.ntmps83 rfl ?_
 refine sqt 1 rfl (pur 1 rfl (sqt 9 rfl (pur 4 rfl ?_)))
 refine Zv 10 rfl ?_ ?_<;>intro g10
 refine pur 5 rfl (Z4 ?_)
 exact rtA rfl rfl rfl ⟨by simp_all only [ZR,inR,Bool.true_and,Bool.false_and,cond_true,cond_false],rfl,rfl⟩ drp
 refine pur 5 rfl (Z4 ?_)
 exact rtA rfl rfl rfl ⟨by simp_all only [ZR,inR,Bool.true_and,Bool.false_and,cond_true,cond_false],rfl,rfl⟩ drp
theorem Za5 (n lo hi:Int) (h:lo≤n∧n≤hi) (H:Z8) (R:Z5):FnV Tryz.prog 83 [.int .i64 n,.int .i64 lo,.int .i64 hi] H R (.bool true):=by
 have:=Z71 n lo hi H R
 rwa [Zfm h] at this
theorem Z1u (xs:List Int) (a:Option Addr) (c g:Nat) (fst cap:List Value) (p:Int→Bool) (hg:cal Tryz.prog g=true) (hl:xs.length≤9223372036854775807) (H:Z8) (R:Z5) [hR:MemRows a 1 (irows xs) R] (hp:∀ x,x∈xs→FnV Tryz.prog g (fst++[.int .i64 x]++cap) H R (.bool (p x))) :
    FnV Tryz.prog 224 [.slice a xs.length c,.func (.func g) fst.toArray cap.toArray] H R (.int .i64 (match xs.findIdx? p with | some k=>(k:Int) | none => -1)):=by
 refine Ze Tryz.func224 rfl Tryz.ntmps224 rfl ?_
 refine sqt 1 rfl (pur 1 rfl (Z0 (sqt 3 rfl (pur 1 rfl (sp rfl (PE.lenSl ZD rfl) rfl (pur 1 rfl (Z3 ?_)))))))
 refine Zd (ι:={k:Nat // k≤xs.length∧∀ x∈xs.take k,p x=false}) (fun k=>⟨[(0,.slice a xs.length c),(1,.func (.func g) fst.toArray cap.toArray),(7,.int .i64 xs.length),(8,.int .i64 k.1)],H,R⟩) (fun k=>xs.length-k.1) ⟨0,by simp⟩ ?_ (fun k=>?_)
 exact Zj idH
 obtain ⟨k,hk,hn⟩:=k
 dsimp only
 refine sqt 1 rfl (pur 1 rfl (Z0 ?_))
 refine Z2 rfl ?_ ?_<;>intro hc0
 simp only [cS] at hc0
 obtain ⟨x,hx⟩:∃ x,xs[k]?=some x:=⟨_,List.getElem?_eq_getElem (by omega)⟩
 have hxm:=List.mem_of_getElem? hx
 refine Zi (a:=a) (sz:=1) (rows:=irows xs) (by cases xs<;>simp_all [irows]) (fun b off he=>?_)
 subst he
 refine Z1 (Z0 (Z3 (sqt 2 rfl (pur 2 rfl (sqt 6 rfl (pur 3 rfl (sp rfl (PE.indexAddr Z1q rfl rfl (by omega) (by omega)) rfl (spL rfl rfl (lf0 sc3 (by simp [irows,hx];rfl) rfl) rfl ?_))))))))
 refine Z5f rfl rfl (hg) rfl rfl (hp x hxm) ?_
 refine Z2 rfl ?_ ?_<;>intro hc1
 refine sqt 2 rfl (pur 2 rfl (Z4 ?_))
 first | (exact rtA rfl rfl rfl ⟨by rw [Zy hx hn hc1];rfl,rfl,rfl⟩ idH) | (exact rtA rfl rfl rfl ⟨by rw [Zs (by simpa using hn)];rfl,rfl,rfl⟩ idH)
 refine Z1 (sqr 2 rfl (sp rfl (PE.add rfl rfl (by omega)) rfl (pur 1 rfl ?_)))
 exact Zc ⟨k+1,by omega,ZT hx hn hc1⟩ idH
 simp only [cS] at hc0
 obtain rfl:k=xs.length:=by omega
 refine Z7 (Z9 (Z9 (Zk (sqt 1 rfl (pur 1 rfl (Z4 ?_))))))
 first | (exact rtA rfl rfl rfl ⟨by rw [Zy hx hn hc1];rfl,rfl,rfl⟩ idH) | (exact rtA rfl rfl rfl ⟨by rw [Zs (by simpa using hn)];rfl,rfl,rfl⟩ idH)
theorem Z10 (xs:List Int) (a:Option Addr) (c g:Nat) (fst cap:List Value) (p:Int→Bool) (hg:cal Tryz.prog g=true) (hl:xs.length≤9223372036854775807) (H:Z8) (R:Z5) [hR:MemRows a 1 (irows xs) R] (hp:∀ x,x∈xs→FnV Tryz.prog g (fst++[.int .i64 x]++cap) H R (.bool (p x))) :
    FnV Tryz.prog 148 [.slice a xs.length c,.func (.func g) fst.toArray cap.toArray] H R (.bool (xs.any p)):=by
 refine Ze Tryz.func148 rfl Tryz.ntmps148 rfl ?_
 refine sqt 1 rfl (pur 1 rfl (sqt 5 rfl (pur 2 rfl ?_)))
 refine clV rfl Z6b rfl rfl (Z1u xs a c g fst cap p hg hl _ _ hp) ?_
 refine pur 2 rfl (Z4 ?_)
 exact rtA rfl rfl rfl ⟨by simp only [ZR];exact Z0v _ _,rfl,rfl⟩ drp
theorem Z1t (x:Int) (g bf:Nat) (fst cap:List Value) (p:Bool) (hg:cal Tryz.prog g=true) (H:Z8) (R:Z5) [hM:Mem1 bf (cel 100 [.func (.func g) fst.toArray cap.toArray]) H] (hp:FnV Tryz.prog g (fst++[.int .i64 x]++cap) H R (.bool p)) :
    FnV Tryz.prog 267 [.int .i64 x,.pointer (some ⟨bf,0,none⟩)] H R (.bool !p):=by
 refine Ze Tryz.func267 rfl Tryz.ntmps267 rfl ?_
 refine sqt 1 rfl (pur 1 rfl (sqt 5 rfl (spL rfl rfl (lh Z4C rfl rfl) rfl (pur 1 rfl ?_))))
 refine Z5f rfl rfl (hg) rfl rfl (hp) ?_
 refine pur 2 rfl (Z4 ?_)
 exact rtA rfl rfl rfl ⟨rfl,rfl,rfl⟩ drp
theorem Z0l (xs:List Int) (a:Option Addr) (c g:Nat) (fst cap:List Value) (p:Int→Bool) (hg:cal Tryz.prog g=true) (hl:xs.length≤9223372036854775807) (H:Z8) (R:Z5) [hR:MemRows a 1 (irows xs) R] (hp:∀ b x,x∈xs→FnV Tryz.prog g (fst++[.int .i64 x]++cap) ((b,cel 100 [.func (.func g) fst.toArray cap.toArray])::H) R (.bool (p x))) :
    FnV Tryz.prog 229 [.slice a xs.length c,.func (.func g) fst.toArray cap.toArray] H R (.bool (xs.all p)):=by
 refine Ze Tryz.func229 rfl Tryz.ntmps229 rfl ?_
 refine sqt 2 rfl (bx rfl rfl rfl (fun b3=>pur 1 rfl (sqt 5 rfl (pur 1 rfl (sp rfl (PE.makeFunc rfl rfl) rfl ?_)))))
 refine clV rfl Z4K rfl rfl (Z10 xs a c 267 [] [_] (fun x=>!p x) Zhl hl _ _ (hp:=fun x hx=>Z1t x g _ fst cap (p x) hg _ _ (hp:=hp _ x hx))) ?_
 refine pur 2 rfl (Z4 ?_)
 exact rtA rfl rfl rfl ⟨by simp only [ZR];rw [ZQ],rfl,rfl⟩ drp
theorem Za2 (xs:List TLot) (a:Option Addr) (c g:Nat) (fst cap:List Value) (p:TLot→Bool) (hg:cal Tryz.prog g=true) (hl:xs.length≤9223372036854775807) (H:Z8) (R:Z5) [hR:MemRows a 3 (trows xs) R] (hp:∀ x,x∈xs→FnV Tryz.prog g (fst++[.agg (trow x).toArray]++cap) H R (.bool (p x))) :
    FnV Tryz.prog 278 [.slice a xs.length c,.func (.func g) fst.toArray cap.toArray] H R (.int .i64 (match xs.findIdx? p with | some k=>(k:Int) | none => -1)):=by
 refine Ze Tryz.func278 rfl Tryz.ntmps278 rfl ?_
 refine sqt 1 rfl (pur 1 rfl (Z0 (sqt 3 rfl (pur 1 rfl (sp rfl (PE.lenSl Z2z rfl) rfl (pur 1 rfl (Z3 ?_)))))))
 refine Zd (ι:={k:Nat // k≤xs.length∧∀ x∈xs.take k,p x=false}) (fun k=>⟨[(0,.slice a xs.length c),(1,.func (.func g) fst.toArray cap.toArray),(7,.int .i64 xs.length),(8,.int .i64 k.1)],H,R⟩) (fun k=>xs.length-k.1) ⟨0,by simp⟩ ?_ (fun k=>?_)
 exact Zj idH
 obtain ⟨k,hk,hn⟩:=k
 dsimp only
 refine sqt 1 rfl (pur 1 rfl (Z0 ?_))
 refine Z2 rfl ?_ ?_<;>intro hc0
 simp only [cS] at hc0
 obtain ⟨x,hx⟩:∃ x,xs[k]?=some x:=⟨_,List.getElem?_eq_getElem (by omega)⟩
 have hxm:=List.mem_of_getElem? hx
 refine Zi (a:=a) (sz:=3) (rows:=trows xs) (by cases xs<;>simp_all [trows]) (fun b off he=>?_)
 subst he
 refine Z1 (Z0 (Z3 (sqt 2 rfl (pur 2 rfl (sqt 6 rfl (pur 3 rfl (sp rfl (PE.indexAddr Zf8 rfl rfl (by omega) (by omega)) rfl (spL rfl rfl (lfA Z54 (row:=trow x) (by simp [trows,hx]) rfl) rfl ?_))))))))
 refine Z5f rfl rfl (hg) rfl rfl (hp x hxm) ?_
 refine Z2 rfl ?_ ?_<;>intro hc1
 refine sqt 2 rfl (pur 2 rfl (Z4 ?_))
 first | (exact rtA rfl rfl rfl ⟨by rw [Zy hx hn hc1];rfl,rfl,rfl⟩ idH) | (exact rtA rfl rfl rfl ⟨by rw [Zs (by simpa using hn)];rfl,rfl,rfl⟩ idH)
 refine Z1 (sqr 2 rfl (sp rfl (PE.add rfl rfl (by omega)) rfl (pur 1 rfl ?_)))
 exact Zc ⟨k+1,by omega,ZT hx hn hc1⟩ idH
 simp only [cS] at hc0
 obtain rfl:k=xs.length:=by omega
 refine Z7 (Z9 (Z9 (Zk (sqt 1 rfl (pur 1 rfl (Z4 ?_))))))
 first | (exact rtA rfl rfl rfl ⟨by rw [Zy hx hn hc1];rfl,rfl,rfl⟩ idH) | (exact rtA rfl rfl rfl ⟨by rw [Zs (by simpa using hn)];rfl,rfl,rfl⟩ idH)
theorem Z9X (xs:List TLot) (a:Option Addr) (c g:Nat) (fst cap:List Value) (p:TLot→Bool) (hg:cal Tryz.prog g=true) (hl:xs.length≤9223372036854775807) (H:Z8) (R:Z5) [hR:MemRows a 3 (trows xs) R] (hp:∀ x,x∈xs→FnV Tryz.prog g (fst++[.agg (trow x).toArray]++cap) H R (.bool (p x))) :
    FnV Tryz.prog 268 [.slice a xs.length c,.func (.func g) fst.toArray cap.toArray] H R (.bool (xs.any p)):=by
 refine Ze Tryz.func268 rfl Tryz.ntmps268 rfl ?_
 refine sqt 1 rfl (pur 1 rfl (sqt 5 rfl (pur 2 rfl ?_)))
 refine clV rfl Zhq rfl rfl (Za2 xs a c g fst cap p hg hl _ _ hp) ?_
 refine pur 2 rfl (Z4 ?_)
 exact rtA rfl rfl rfl ⟨by simp only [ZR];exact Z0v _ _,rfl,rfl⟩ drp
theorem Z9T (x:TLot) (g bf:Nat) (fst cap:List Value) (p:Bool) (hg:cal Tryz.prog g=true) (H:Z8) (R:Z5) [hM:Mem1 bf (cel 340 [.func (.func g) fst.toArray cap.toArray]) H] (hp:∀ b,FnV Tryz.prog g (fst++[.agg (trow x).toArray]++cap) ((b,cel 108 (trow x))::H) R (.bool p)) :
    FnV Tryz.prog 269 [.agg (trow x).toArray,.pointer (some ⟨bf,0,none⟩)] H R (.bool !p):=by
 refine Ze Tryz.func269 rfl Tryz.ntmps269 rfl ?_
 refine sqt 2 rfl (bx rfl rfl rfl (fun b2=>pur 1 rfl (sqt 5 rfl (spL rfl rfl (lh Zkb rfl rfl) rfl (spL rfl rfl (lhA [_,_,_] Z54 rfl rfl rfl) rfl ?_)))))
 refine Z5f rfl rfl (hg) rfl rfl (hp _) ?_
 refine pur 2 rfl (Z4 ?_)
 exact rtA rfl rfl rfl ⟨rfl,rfl,rfl⟩ drp
theorem Z3R (xs:List TLot) (a:Option Addr) (c g:Nat) (fst cap:List Value) (p:TLot→Bool) (hg:cal Tryz.prog g=true) (hl:xs.length≤9223372036854775807) (H:Z8) (R:Z5) [hR:MemRows a 3 (trows xs) R] (hp:∀ b b2 x,x∈xs→FnV Tryz.prog g (fst++[.agg (trow x).toArray]++cap) ((b2,cel 108 (trow x))::(b,cel 340 [.func (.func g) fst.toArray cap.toArray])::H) R (.bool (p x))) :
    FnV Tryz.prog 231 [.slice a xs.length c,.func (.func g) fst.toArray cap.toArray] H R (.bool (xs.all p)):=by
 refine Ze Tryz.func231 rfl Tryz.ntmps231 rfl ?_
 refine sqt 2 rfl (bx rfl rfl rfl (fun b3=>pur 1 rfl (sqt 5 rfl (pur 1 rfl (sp rfl (PE.makeFunc rfl rfl) rfl ?_)))))
 refine clV rfl Zhm rfl rfl (Z9X xs a c 269 [] [_] (fun x=>!p x) Zhn hl _ _ (hp:=fun x hx=>Z9T x g _ fst cap (p x) hg _ _ (hp:=fun b=>hp _ _ x hx))) ?_
 refine pur 2 rfl (Z4 ?_)
 exact rtA rfl rfl rfl ⟨by simp only [ZR];rw [ZQ],rfl,rfl⟩ drp
theorem Z58 (y:TBn) (a1 a2:Option Addr) (k1 k2:Nat) (q:Int) (hq:0≤q∧q<y.sizes.length) (hn:y.sizes.length≤7) (H:Z8) (R:Z5) :
    FnV Tryz.prog 234 [(y.v a1 a2 k1 k2),.int .i64 q] H R (.bool true):=by
 refine Ze Tryz.func234 rfl Tryz.ntmps234 rfl ?_
 refine sqt 2 rfl (bx rfl rfl rfl (fun b2=>pur 1 rfl (sqt 7 rfl (pur 1 rfl (sp rfl (PE.fA Z0K rfl) rfl (spL rfl rfl (lh Z26 rfl rfl) rfl (sp rfl (PE.lenSl ZD rfl) rfl (sp rfl (PE.sub rfl rfl (by omega)) rfl ?_))))))))
 refine clV rfl Zad rfl rfl (Za5 _ _ _ (by omega) _ _) ?_
 refine pur 1 rfl (Z4 ?_)
 exact rtA rfl rfl rfl ⟨rfl,rfl,rfl⟩ drp
theorem Zjf (x:Int) (hx:0≤x∧x≤300) (H:Z8) (R:Z5) :
    FnV Tryz.prog 230 [.int .i64 x] H R (.bool true):=by
 refine Ze Tryz.func230 rfl Tryz.ntmps230 rfl ?_
 refine sqt 1 rfl (pur 1 rfl (sqt 3 rfl (pur 1 rfl ?_)))
 refine clV rfl Zad rfl rfl (Za5 _ _ _ (by omega) _ _) ?_
 refine pur 1 rfl (Z4 ?_)
 exact rtA rfl rfl rfl ⟨rfl,rfl,rfl⟩ drp
theorem Zjg (x:TLot) (hx:1≤x.sk∧x.sk≤300) (H:Z8) (R:Z5) :
    FnV Tryz.prog 232 [.agg (trow x).toArray] H R (.bool true):=by
 refine Ze Tryz.func232 rfl Tryz.ntmps232 rfl ?_
 refine sqt 2 rfl (bx rfl rfl rfl (fun b1=>pur 1 rfl (sqt 4 rfl (sp rfl (PE.fA Z44 rfl) rfl (spL rfl rfl (lh (v:=.int .i64 x.sk) sc3 rfl rfl) rfl ?_)))))
 refine clV rfl Zad rfl rfl (Za5 _ _ _ (by omega) _ _) ?_
 refine pur 1 rfl (Z4 ?_)
 exact rtA rfl rfl rfl ⟨rfl,rfl,rfl⟩ drp
theorem Zjh (y:TBn) (a1 a2:Option Addr) (k1 k2:Nat) (hn:y.sizes.length≤7) (b1:Nat) (x:TLot) (hx:(0≤x.in_∧x.in_<y.sizes.length)∧(x.to = -1∨0≤x.to∧x.to<y.sizes.length)) (H:Z8) (R:Z5) [hM:Mem1 b1 (cel 26 (brl y a1 a2 k1 k2)) H] :
    FnV Tryz.prog 233 [.agg (trow x).toArray,.pointer (some ⟨b1,0,none⟩)] H R (.bool true):=by
 refine Ze Tryz.func233 rfl Tryz.ntmps233 rfl ?_
 refine sqt 2 rfl (bx rfl rfl rfl (fun b2=>pur 1 rfl (sqt 16 rfl (spL rfl rfl (lhA (brl y a1 a2 k1 k2) Z65 rfl (rest:=[]) rfl rfl) rfl (sp rfl (PE.fA Z45 rfl) rfl (spL rfl rfl (lh (v:=.int .i64 x.in_) sc3 rfl rfl) rfl ?_))))))
 refine clV rfl ZdD rfl rfl (Z58 y a1 a2 k1 k2 x.in_ (by omega) hn _ _) ?_
 refine pur 1 rfl ?_
 refine Zv 8 rfl ?_ ?_<;>intro g8
 refine spG rfl rfl rfl rfl (PE.fA Z0d rfl) rfl ?_
 refine Z0E rfl rfl rfl rfl rfl (lh (v:=.int .i64 x.to) sc3 rfl rfl) rfl (pur 2 rfl ?_)
 refine Zv 12 rfl ?_ ?_<;>intro g12
 refine pur 7 rfl (Z4 ?_)
 exact rtA rfl rfl rfl ⟨rfl,rfl,rfl⟩ drp
 have h12:x.to ≠ -1:=by simpa using g12
 refine Z0E rfl rfl rfl rfl rfl (lhA (brl y a1 a2 k1 k2) Z65 rfl (rest:=[]) rfl rfl) rfl ?_
 refine spG rfl rfl rfl rfl (PE.fA Z0d rfl) rfl ?_
 refine Z0E rfl rfl rfl rfl rfl (lh (v:=.int .i64 x.to) sc3 rfl rfl) rfl ?_
 refine Z6e rfl rfl rfl rfl ZdD rfl rfl (Z58 y a1 a2 k1 k2 x.to (by omega) hn _ _) ?_
 refine pur 3 rfl (Z4 ?_)
 exact rtA rfl rfl rfl ⟨rfl,rfl,rfl⟩ drp
 exact absurd g8 (by simp)
theorem Z59 (y:TBn) (a1 a2:Option Addr) (k1 k2:Nat) (k i:Nat) (hk:k<y.sizes.length) (hi:i<y.lots.length) (hn:y.sizes.length≤7∧y.lots.length≤6) (H:Z8) (R:Z5) [hR1:MemRows a1 1 (irows y.sizes) R] [hR2:MemRows a2 3 (trows y.lots) R] :
    FnV Tryz.prog 87 [(y.v a1 a2 k1 k2),.int .i64 (k:Int),.int .i64 (i:Int)] H R (.bool (y.fits k i)):=by
 refine Ze Tryz.func87 rfl Tryz.ntmps87 rfl ?_
 refine sqt 2 rfl (bx rfl rfl rfl (fun b3=>?_))
 refine Zi (a:=a1) (sz:=1) (rows:=irows y.sizes) (ne_of_get (ir_get (na_get hk))) (fun bp1 op1 he1=>?_)
 subst he1
 refine Zi (a:=a2) (sz:=3) (rows:=trows y.lots) (ne_of_get (Z1M (TBn.lot_get hi))) (fun bp2 op2 he2=>?_)
 subst he2
 refine pur 1 rfl (Z0 ?_)
 refine Zb [0,1,0,7,15,0,32,0,224,480,992,2047,4095] (.tk 0 (.ld 1 (.tk 2 (.tk 3 (.ld 4 (.tk 5 (.ld 6 (tks 7 3 (.ld 10 (.tk 11 (.tk 12 .done))))))))))) Zo (by kernel_rfl) ?_
 refine tk rfl (PE.fA Z0K rfl) rfl (ld rfl rfl (lh Z26 rfl rfl) rfl (Zl 1 rfl (tk rfl (PE.indexAddr Z1q rfl rfl (by omega) (by omega)) rfl (ld rfl rfl (lf0 sc3 (ir_get (na_get hk)) rfl) rfl (tk rfl (PE.fA Z0i rfl) rfl (ld rfl rfl (lh Z6Q rfl rfl) rfl (Zl 1 rfl (tk rfl (PE.indexAddr Zf8 rfl rfl (by omega) (by omega)) rfl (tk rfl (PE.fA Z44 rfl) rfl (ld rfl rfl (lf0 sc3 (Z1M (TBn.lot_get hi)) rfl) rfl (Zl 2 rfl (Z4 ?_))))))))))))
 exact rtA rfl rfl rfl ⟨rfl,rfl,rfl⟩ drp
end Go.Proofs.YtcfdanhklbklkaaGreat.Tu
