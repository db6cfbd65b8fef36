/- The rounds that make a barn of lots right are days of a plan that can be made; it keeps just if no lot gets warmer than its mark, and then it has no fewer turnings than the fewest for as many days, and no more days than the lots can be kept: TopRounds returns true for every input, and its arguments read as they did. -/
import Derived.Test.YtcfdanhklbklkaaGreatTr8
import Derived.Test.YtcfdanhklbklkaaGreatRows
import Derived.ProofKit
import Derived.ChangeOld
import Derived.Below
import Derived.OpenShut
import Derived.OpenShut
namespace Go.Proofs.YtcfdanhklbklkaaGreat
set_option linter.unusedSimpArgs false
set_option linter.unusedVariables false
open Go Go.ChangeShapes Go.WideShapes Go.RowKit
inductive CKind where
 | int (k:IntKind)
 | bool
 | slice (e:Nat)
 deriving DecidableEq
def Ziw (P:Program) (g:Nat→Option (List CKind)):Nat→List Field→Option (List CKind)
 | _,[]=>some []
 | o,f::fs=>match g f.type with
   | some ks=>bif Nat.beq f.offset o&&Nat.beq ks.length (P.cellsOf f.type) then (match Ziw P g (o+ks.length) fs with | some r=>some (ks++r) | none=>none) else none
   | none=>none
def shp (P:Program):Nat→Nat→Option (List CKind)
 | 0,_=>none
 | d+1,T=>match P.underlying T with
   | some (.int k)=>some [.int k]
   | some .bool=>some [.bool]
   | some (.slice e)=>some [.slice e]
   | some (.struct fs)=>match Ziw P (shp P d) 0 fs.toList with
     | some ks=>bif Nat.beq ks.length (P.cellsOf T) then some ks else none
     | none=>none
   | some (.array n e)=>match shp P d e with
     | some ks=>bif Nat.beq ks.length (P.cellsOf e)&&Nat.beq (n*P.cellsOf e) (P.cellsOf T) then some (List.replicate n ks).flatten else none
     | none=>none
   | _=>none
section open_
variable {H:Type} {enc:TypeId×Value→H} {P:Program} {w:World} {base:Nat} {spare:Nat→Bool} {held:Bool}
def C1 (P:Program) (w:World):CKind→Value→Prop
 | .int k,c=>∃ n,c = .int k n∧k.min≤n∧n≤k.max
 | .bool,c=>∃ b,c = .bool b
 | .slice e,c=>∃ (a:Option Addr) (len cap:Nat) (rows:List (List Value)),c = .slice a len cap∧len≤9223372036854775807∧rows.length=len ∧
     (0<P.cellsOf e→RowsA a (P.cellsOf e) rows w)∧∀ r∈rows,∃ (H:Type) (enc:TypeId×Value→H) (base fuel:Nat) (spare:Nat→Bool) (held:Bool) (x:DataW H×List MemPlace),DataW.trod enc P w base spare held fuel e r=some x
def Cok (P:Program) (w:World):List CKind→List Value→Prop
 | [],cs=>cs=[]
 | k::ks,cs=>∃ c cs',cs=c::cs'∧C1 P w k c∧Cok P w ks cs'
theorem Cok.len:∀ {ks:List CKind} {cs:List Value},Cok P w ks cs→cs.length=ks.length
 | [],cs,h=>by cases h;rfl
 | k::ks,cs,⟨c,cs',h,_,h2⟩=>by subst h;simp [h2.len]
theorem Cok.app:∀ {ks ks':List CKind} {cs cs':List Value},Cok P w ks cs→Cok P w ks' cs'→Cok P w (ks++ks') (cs++cs')
 | [],_,cs,_,h,h'=>by cases h;exact h'
 | k::ks,_,cs,_,⟨c,cs1,h,h1,h2⟩,h'=>by subst h;exact ⟨c,_,rfl,h1,h2.app h'⟩
theorem Zby {d:Nat} (ih:∀ {T:Nat} {ks:List CKind} {fuel:Nat} {cs:List Value} {x:DataW H×List MemPlace},shp P d T=some ks→DataW.trod enc P w base spare held fuel T cs=some x→Cok P w ks cs) {fuel:Nat} {cs:List Value} :
   ∀ (fs : List Field) (o : Nat) (ks : List CKind), Ziw P (shp P d) o fs = some ks → o + ks.length = cs.length →
     (∀ f∈fs,∃ x,DataW.trod enc P w base spare held fuel f.type ((cs.drop f.offset).take (P.cellsOf f.type))=some x)→Cok P w ks (cs.drop o)
 | [],o,ks,h,hl,_=>by
   simp only [Ziw,Option.some.injEq] at h
   subst h
   show cs.drop o=[]
   exact List.drop_eq_nil_of_le (by simp at hl;omega)
 | f::fs,o,ks,h,hl,hf=>by
   unfold Ziw at h
   split at h
   · rename_i k1 hk
     cases hc:(Nat.beq f.offset o&&Nat.beq k1.length (P.cellsOf f.type)) with
     | false=>rw [hc] at h;cases h
     | true =>
       rw [hc,cond_true] at h
       simp only [Bool.and_eq_true] at hc
       have ho:=Nat.eq_of_beq_eq_true hc.1
       have hk1:=Nat.eq_of_beq_eq_true hc.2
       split at h
       · rename_i r hr
         cases h
         obtain ⟨x,hx⟩:=hf f (by simp)
         have h1:=ih hk hx
         have h2:=Zby ih fs (o+k1.length) r hr (by simp at hl;omega) (fun g hg=>hf g (by simp [hg]))
         rw [ho,← hk1] at h1
         have e:cs.drop o=(cs.drop o).take k1.length++cs.drop (o+k1.length):=by rw [← List.drop_drop,List.take_append_drop]
         rw [e]
         exact h1.app h2
       · cases h
   · cases h
theorem Cok.arr {ks:List CKind} {c:Nat} {cs:List Value} (hc:ks.length=c):∀ (j i:Nat),(∀ q,i≤q→q<i+j→Cok P w ks ((cs.drop (q*c)).take c))→cs.length=(i+j)*c→Cok P w (List.replicate j ks).flatten (cs.drop (i*c))
 | 0,i,_,hl=>by
   show cs.drop (i*c)=[]
   exact List.drop_eq_nil_of_le (by rw [hl];simp)
 | j+1,i,h,hl=>by
   have h1:=h i (Nat.le_refl _) (by omega)
   have h2:=Cok.arr hc j (i+1) (fun q hq1 hq2=>h q (by omega) (by omega)) (by rw [hl];congr 1;omega)
   rw [List.replicate_succ,List.flatten_cons]
   have e:cs.drop (i*c)=(cs.drop (i*c)).take c++cs.drop ((i+1)*c):=by rw [Nat.succ_mul,← List.drop_drop,List.take_append_drop]
   rw [e]
   exact h1.app h2
theorem Z4X:∀ {d T:Nat} {ks:List CKind} {fuel:Nat} {cs:List Value} {x:DataW H×List MemPlace},shp P d T=some ks→DataW.trod enc P w base spare held fuel T cs=some x→Cok P w ks cs
 | 0,_,_,_,_,_,h,_=>by cases h
 | d+1,T,ks,fuel,cs,x,h,hx=>by
   unfold shp at h
   split at h
   · rename_i k hu
     cases h
     obtain ⟨n,rfl,_,hw⟩:=DataW.trod_int hu hx
     simp only [Lit.wf,Bool.and_eq_true,decide_eq_true_eq] at hw
     exact ⟨_,[],rfl,⟨n,rfl,hw.1,hw.2⟩,rfl⟩
   · rename_i hu
     cases h
     obtain ⟨b,rfl,_⟩:=DataW.trod_bool hu hx
     exact ⟨_,[],rfl,⟨b,rfl⟩,rfl⟩
   · rename_i e hu
     cases h
     rcases DataW.trod_slice hu hx with ⟨rfl,_⟩ | ⟨a,len,cap,elems,rest,n,_,rfl,_,hb,hl,hm,hlen,hel,_,_⟩
     · exact ⟨_,[],rfl,⟨none,0,0,[],rfl,by omega,rfl,fun _ i r hi=>by simp at hi,by simp⟩,rfl⟩
     · have each:∀ i,i<len→∃ cs',w.cells? base (a.add (i*P.cellsOf e)) (P.cellsOf e)=some cs'∧∃ x,DataW.trod enc P w base spare held n e cs'=some x:=by
         intro i hi
         have h1:=hel i hi
         rw [List.getElem?_eq_getElem (by omega)] at h1
         obtain ⟨cs',h2,h3⟩:=Option.bind_eq_some_iff.1 h1
         exact ⟨cs',h2,_,h3⟩
       have hex:∃ rows:List (List Value),rows.length=len∧∀ i r,rows[i]?=some r→w.cells? base (a.add (i*P.cellsOf e)) (P.cellsOf e)=some r∧∃ x,DataW.trod enc P w base spare held n e r=some x:=by
         refine ⟨(List.range len).map fun i=>((w.cells? base (a.add (i*P.cellsOf e)) (P.cellsOf e)).getD []),by simp,fun i r hi=>?_⟩
         have hlt:i<len:=by have:=(List.getElem?_eq_some_iff.1 hi).1;simpa using this
         obtain ⟨cs',h2,x,h3⟩:=each i hlt
         simp only [List.getElem?_map,List.getElem?_range hlt,Option.map_some,h2,Option.getD_some,Option.some.injEq] at hi
         subst hi
         exact ⟨h2,x,h3⟩
       obtain ⟨rows,hr1,hr2⟩:=hex
       refine ⟨_,[],rfl,⟨some a,len,cap,rows,rfl,by simp only [maxLen] at hm;omega,hr1,fun hpos i r hi=>?_,fun r hr=>?_⟩,rfl⟩
       · obtain ⟨h2,_⟩:=hr2 i r hi
         obtain ⟨h4,h5,h6⟩:=World.cells?_some h2
         obtain ⟨blk,off,spot⟩:=a
         have hsp:spot=none:=by
           obtain ⟨r0,hr0⟩:∃ r0,rows[0]?=some r0:=⟨_,List.getElem?_eq_getElem (by have:=(List.getElem?_eq_some_iff.1 hi).1;omega)⟩
           obtain ⟨g2,_⟩:=hr2 0 r0 hr0
           obtain ⟨_,g5,g6⟩:=World.cells?_some g2
           have g7:=g6 0 hpos
           rw [List.getElem?_eq_getElem (by omega)] at g7
           have h8:=World.cell?_spot g7
           simpa [Addr.add] using h8
         subst hsp
         refine ⟨h5,blk,off,rfl,fun j y hy=>?_⟩
         have hj:j<P.cellsOf e:=by rw [← h5];exact (List.getElem?_eq_some_iff.1 hy).1
         have:=h6 j hj
         rw [hy] at this
         rw [ZB,ZB] at this
         exact this
       · obtain ⟨i,hi⟩:=List.getElem?_of_mem hr
         obtain ⟨_,x,h3⟩:=hr2 i r hi
         exact ⟨H,enc,base,n,spare,held,x,h3⟩
   · rename_i fs hu
     split at h
     · rename_i k1 hk
       cases hc:Nat.beq k1.length (P.cellsOf T) with
       | false=>rw [hc] at h;cases h
       | true =>
         rw [hc] at h;cases h
         obtain ⟨xs,n,_,_,hl,hxl,hf⟩:=DataW.trod_struct hu hx
         have:=Zby (cs:=cs) (fuel:=n) (fun h1 h2=>Z4X h1 h2) fs.toList 0 ks hk (by have:=Nat.eq_of_beq_eq_true hc;omega) (fun f hf'=>by
           obtain ⟨i,hi⟩:=List.getElem?_of_mem hf'
           have hi':fs[i]?=some f:=by simpa using hi
           have h1:=hf i f hi'
           have hlt:i<fs.size:=(Array.getElem?_eq_some_iff.1 hi').1
           rw [List.getElem?_eq_getElem (by omega)] at h1
           exact ⟨_,h1⟩)
         simpa using this
     · cases h
   · rename_i n e hu
     split at h
     · rename_i k1 hk
       cases hc:(Nat.beq k1.length (P.cellsOf e)&&Nat.beq (n*P.cellsOf e) (P.cellsOf T)) with
       | false=>rw [hc] at h;cases h
       | true =>
         rw [hc] at h;cases h
         simp only [Bool.and_eq_true] at hc
         obtain ⟨xs,m,_,_,hl,hxl,hf⟩:=DataW.trod_array hu hx
         have:=Cok.arr (P:=P) (w:=w) (cs:=cs) (Nat.eq_of_beq_eq_true hc.1) n 0 (fun q _ hq=>by
           have h1:=hf q (by omega)
           rw [List.getElem?_eq_getElem (by omega)] at h1
           exact Z4X hk h1) (by rw [hl,Nat.zero_add];exact (Nat.eq_of_beq_eq_true hc.2).symm)
         simpa using this
     · cases h
   · cases h
theorem Z7z {α:Type} {f:α→List Value}:∀ {rows:List (List Value)},(∀ r∈rows,∃ x,r=f x)→∃ xs:List α,rows=xs.map f
 | [],_=>⟨[],rfl⟩
 | r::rows,h=>by
   obtain ⟨x,hx⟩:=h r (by simp)
   obtain ⟨xs,hxs⟩:=Z7z (rows:=rows) (fun q hq=>h q (by simp [hq]))
   exact ⟨x::xs,by rw [hx,hxs];rfl⟩
end open_
theorem St.start {w:World} {R:Z5} (h:∀ f∈R,∀ w',Keep [] w w'→f w'):St [] R w:=⟨by simp,by simp,h⟩
theorem RowsA.keep {a:Option Addr} {sz:Nat} {rows:List (List Value)} {w w':World} (hp:0<sz) (h:RowsA a sz rows w) (k:Keep [] w w'):RowsA a sz rows w':=fun i r hi=>by
 obtain ⟨h1,b,off,he,hc⟩:=h i r hi
 refine ⟨h1,b,off,he,fun j x hx=>?_⟩
 have h2:=hc j x hx
 have hb:=World.block_lt_of_cell? w _ h2
 rw [← h2]
 exact World.cell?_of_block (k.block b hb (by simp))
theorem Keep.below {w w':World} (h:Keep [] w w'):Below w.heap.size w w':=⟨h.os,h.tape,h.output,h.size,fun k hk=>h.block k hk (by simp)⟩
end Go.Proofs.YtcfdanhklbklkaaGreat
namespace Go.Proofs.YtcfdanhklbklkaaGreat
open Go.ChangeShapes Go.WideShapes Go.ChangeAt Go.RowKit
set_option linter.unusedVariables false
set_option linter.unusedSimpArgs false
theorem Z6X:ownKnob Tryz.prog.godebug=none:=by kernel_rfl
theorem Z2S:laidOutB Tryz.prog=true:=by kernel_rfl
theorem Z2T:shp Tryz.prog 6 5=some ([.int .u8]):=by kernel_rfl
theorem Z27:shp Tryz.prog 6 22=some ([.slice 5]):=by kernel_rfl
set_option maxRecDepth 100000 in
theorem Z4u (os:Os) (started:os.Started) (H:Type) (enc:TypeId×Value→H) :
   ReturnsInHanded {} Tryz.checked os 3 .any (Rows.topRoundsSpec.pre6 enc Tryz.prog Tryz.f3 Rows.topRoundsRow.domain false) (Rows.topRoundsSpec.post enc Tryz.prog Tryz.f3 false true false false):=by
 refine returnsInHanded_of_change (C:=Tryz.checked) Z6X started (by kernel_rfl) Tryz.func3
   (ChangeSpec.witness6 (enc:=enc) (C:=Tryz.checked) false ⟨#[],#[.slice none 0 0,.slice none 0 0],[]⟩ 8 (by kernel_rfl) (by kernel_rfl) (by kernel_rfl) (by kernel_rfl)) ?_
 intro W base args ds gs before hval0 hW hcnd _
 have hval:∀ (j:Nat) t v,Tryz.f3.params[j]?=some t→args[j]?=some v→Value.okWide Tryz.prog W .any base t v:=hval0
 have hW':=hW
 obtain ⟨p,q,hA0,hV,rfl,hfz,hnd⟩:=hW
 have hA:DataW.TrodAll enc Tryz.prog W 0 (fun _=>true) true Tryz.f3.params.toList args.toList ds p:=hA0
 rw [Tryz.params3] at hA hval
 obtain ⟨v0,vs0,d0,ds0,p0,q0,hargs,rfl,rfl,h0,r0⟩:=trodAll_cons hA
 obtain ⟨v1,vs1,d1,ds1,p1,q1,rfl,rfl,rfl,h1,r1⟩:=trodAll_cons r0
 obtain ⟨rfl,rfl,rfl⟩:=trodAll_nil r1
 obtain rfl:args = #[v0,v1]:=by cases args;simp_all
 obtain ⟨rfl,rfl⟩:=trodVars_none hV
 have lt0:∀ x∈p0,x.block<W.heap.size:=by obtain ⟨m,hm⟩:=h0;exact DataW.trod_lt m _ _ _ hm
 have lt1:∀ x∈p1,x.block<W.heap.size:=by obtain ⟨m,hm⟩:=h1;exact DataW.trod_lt m _ _ _ hm
 obtain ⟨aa,ll,cc,rfl⟩:=okWide_slice Tryz.underlying22 (hval 0 22 v0 rfl rfl)
 have hh0:=h0
 obtain ⟨fuel0,hf0⟩:=hh0
 obtain ⟨c0_0,l0_0,e0,⟨a0_0,len0_0,cap0_0,rows0_0,rfl,hl0_0,hlen0_0,hrow0_0,hel0_0⟩,rfl⟩:=Z4X Z27 hf0
 simp only [Value.cells,List.cons.injEq,and_true,Value.int.injEq,Value.bool.injEq,Value.slice.injEq,true_and] at e0
 obtain ⟨u1,u2,u3⟩:=e0;obtain rfl:=u1.symm;obtain rfl:=u2.symm;obtain rfl:=u3.symm
 rw [show Tryz.prog.cellsOf 5=1 from by kernel_rfl] at hrow0_0
 obtain ⟨x0_0,rfl⟩:=Z7z (f:=Ht.urow) (rows:=rows0_0) (fun r hr=>by
   obtain ⟨H1,enc1,b1,fuel1,sp1,held1,y,hy⟩:=hel0_0 r hr
   obtain ⟨c0,s0,rfl,⟨y0,rfl,_⟩,rfl⟩:=Z4X Z2T hy
   exact ⟨y0,rfl⟩)
 rw [List.length_map] at hlen0_0
 subst hlen0_0
 replace hrow0_0:=hrow0_0 (by decide)
 obtain ⟨aa,ll,cc,rfl⟩:=okWide_slice Tryz.underlying22 (hval 1 22 v1 rfl rfl)
 have hh1:=h1
 obtain ⟨fuel1,hf1⟩:=hh1
 obtain ⟨c1_0,l1_0,e1,⟨a1_0,len1_0,cap1_0,rows1_0,rfl,hl1_0,hlen1_0,hrow1_0,hel1_0⟩,rfl⟩:=Z4X Z27 hf1
 simp only [Value.cells,List.cons.injEq,and_true,Value.int.injEq,Value.bool.injEq,Value.slice.injEq,true_and] at e1
 obtain ⟨u1,u2,u3⟩:=e1;obtain rfl:=u1.symm;obtain rfl:=u2.symm;obtain rfl:=u3.symm
 rw [show Tryz.prog.cellsOf 5=1 from by kernel_rfl] at hrow1_0
 obtain ⟨x1_0,rfl⟩:=Z7z (f:=Ht.urow) (rows:=rows1_0) (fun r hr=>by
   obtain ⟨H1,enc1,b1,fuel1,sp1,held1,y,hy⟩:=hel1_0 r hr
   obtain ⟨c0,s0,rfl,⟨y0,rfl,_⟩,rfl⟩:=Z4X Z2T hy
   exact ⟨y0,rfl⟩)
 rw [List.length_map] at hlen1_0
 subst hlen1_0
 replace hrow1_0:=hrow1_0 (by decide)
 have hst:St [] [RowsA a0_0 1 (List.map Ht.urow x0_0),RowsA a1_0 1 (List.map Ht.urow x1_0),fun w=>Keep [] W w] W:=St.start (by
   intro f hf w1 k1
   simp only [List.mem_cons,List.not_mem_nil,or_false] at hf
   rcases hf with rfl | rfl | rfl
   · exact RowsA.keep (by decide) hrow0_0 k1
   · exact RowsA.keep (by decide) hrow1_0 k1
   · exact k1)
 clear hA0 hval0
 have hwalk:=Z78 x0_0 a0_0 cap0_0 hl0_0 x1_0 a1_0 cap1_0 hl1_0 [] [RowsA a0_0 1 (List.map Ht.urow x0_0),RowsA a1_0 1 (List.map Ht.urow x1_0),fun w=>Keep [] W w]
 refine CallsIn.calls (CallsIn.mono (hwalk W hst) ?_) (fun k=>by first | trivial | simp [Fence.room,FF,Fence.wide])
 rintro e W' ⟨v,H',R',⟨rfl,rfl,rfl⟩,rfl,hs⟩
 have bel:Below W.heap.size W W':=(hs.now (f:=fun w=>Keep [] W w) (by simp)).below
 exact ⟨_,rfl,_,_,_,[],_,[],hW',trodAll_mk1 (shut_bool Tryz.underlying4 _),(trodAll_cons_mk (Below.trod Z2S (by kernel_rfl) (of_decide_eq_true (by kernel_rfl)) h0 bel lt0) ( trodAll_cons_mk (Below.trod Z2S (by kernel_rfl) (of_decide_eq_true (by kernel_rfl)) h1 bel lt1) (trodAll_mk0))),rfl,bel.frame _,fun h=>by cases h⟩
theorem Z5T:Rows.topRoundsRow.holds Tryz.pinned (OpenSpec.ofChange Rows.topRoundsSpec) :=
 OpenClaim.holds_of_wide 3 Tryz.f3 rfl rfl rfl rfl rfl rfl rfl ⟨rfl,rfl,rfl,rfl,rfl⟩ rfl rfl rfl rfl rfl (by kernel_rfl) Tryz.func3 (by kernel_rfl)
   (of_decide_eq_true (by kernel_rfl)) (by unfold Func.isWrapper;first | (rw [if_pos (by decide +kernel)];kernel_rfl) | (rw [if_neg (by decide +kernel)];exact ⟨rfl,rfl⟩))
   (fun os started H enc _=>Z4u os started H enc)
theorem topRoundsProved:Rows.TopRoundsSaid:=Z5T
end Go.Proofs.YtcfdanhklbklkaaGreat
