/- Walks of the functions of the program, and the laws that join them: what the last theorem of this claim needs, in order. -/
import Derived.Test.YthijcgkicjljhaaGreatTb6
namespace Go.Proofs.YthijcgkicjljhaaGreat
set_option linter.unusedSimpArgs false
set_option linter.unusedVariables false
open Go
theorem ZT:Z1r Tryz.prog 39=some 3:=by kernel_rfl
theorem Z2A:Z1r Tryz.prog 43=some 2:=by kernel_rfl
theorem Zb9:Z1r Tryz.prog 50=some 4:=by kernel_rfl
theorem Z0e:Z1r Tryz.prog 62=some 3:=by kernel_rfl
theorem Z6g:apT Tryz.prog 30=some (3,1,8):=by kernel_rfl
theorem Zj4:cal Tryz.prog 10=true:=by kernel_rfl
theorem Zj5:cal Tryz.prog 16=true:=by kernel_rfl
theorem Zj6:cal Tryz.prog 17=true:=by kernel_rfl
theorem Zj7:cal Tryz.prog 18=true:=by kernel_rfl
theorem Z80:cal Tryz.prog 19=true:=by kernel_rfl
theorem Z1y:cal Tryz.prog 20=true:=by kernel_rfl
theorem Zj8:cal Tryz.prog 21=true:=by kernel_rfl
theorem Zj9:cal Tryz.prog 22=true:=by kernel_rfl
theorem Zja:cal Tryz.prog 23=true:=by kernel_rfl
theorem Zjb:cal Tryz.prog 24=true:=by kernel_rfl
theorem Zjc:cal Tryz.prog 25=true:=by kernel_rfl
theorem Zjd:cal Tryz.prog 26=true:=by kernel_rfl
theorem Zje:cal Tryz.prog 27=true:=by kernel_rfl
theorem Z4D:cal Tryz.prog 28=true:=by kernel_rfl
theorem ZkB:cal Tryz.prog 6=true:=by kernel_rfl
theorem ZkN:cal Tryz.prog 9=true:=by kernel_rfl
theorem cn3:ZF Tryz.prog 3=some 1:=by kernel_rfl
theorem ZcU:ZF Tryz.prog 39=some 3:=by kernel_rfl
theorem Zba:ZF Tryz.prog 50=some 4:=by kernel_rfl
theorem Z24:ZF Tryz.prog 62=some 3:=by kernel_rfl
theorem Z5G:elN Tryz.prog 30=some 1:=by kernel_rfl
theorem Z2W:Z00 Tryz.prog 39 0=some 0:=by kernel_rfl
theorem Z2X:Z00 Tryz.prog 39 1=some 1:=by kernel_rfl
theorem Z4d:Z00 Tryz.prog 50 0=some 0:=by kernel_rfl
theorem Z4e:Z00 Tryz.prog 50 1=some 2:=by kernel_rfl
theorem Z2Y:Z00 Tryz.prog 50 2=some 3:=by kernel_rfl
theorem Z0r:Z00 Tryz.prog 62 0=some 0:=by kernel_rfl
theorem ik3:Z8c Tryz.prog 3=some .i64:=by kernel_rfl
theorem Z0t:Z3a Tryz.prog 30=true:=by kernel_rfl
theorem Zib:ZM Tryz.prog 39=some [(0,1),(1,1),(2,1)]:=by kernel_rfl
theorem Zc8:ZM Tryz.prog 43=some [(0,1),(1,1)]:=by kernel_rfl
theorem Zc9:ZM Tryz.prog 50=some [(0,2),(2,1),(3,1)]:=by kernel_rfl
theorem ZkW:ZM Tryz.prog 74=some [(0,1),(1,1),(2,1)]:=by kernel_rfl
theorem sc3:Z0j Tryz.prog 3=true:=by kernel_rfl
theorem us5:(Tryz.prog.underlying 5).isSome=true:=by kernel_rfl
theorem Zb8:Zw Tryz.prog 39=some ([.int .i64 0,.int .i64 0,.slice none 0 0]):=by kernel_rfl
theorem Z4s:Zw Tryz.prog 43=some ([.int .i64 0,.int .i64 0]):=by kernel_rfl
theorem Z46:Zw Tryz.prog 50=some ([.int .i64 0,.int .i64 0,.int .i64 0,.int .i64 0]):=by kernel_rfl
theorem Z2e:Zw Tryz.prog 62=some ([.int .i64 0,.slice none 0 0,.slice none 0 0]):=by kernel_rfl
theorem Zdq:Zw Tryz.prog 74=some ([.int .i64 0,.int .i64 0,.bool false]):=by kernel_rfl
namespace Wv
def Hse.wS (h:Hse) (ss:List Sgt):Hse:=⟨h.bins,h.gaps,ss⟩
theorem ZhT {h:Hse} (hs:h.sights=[]) (ag:Option Addr) (cg:Nat):htl h (h.sg ag cg) (h.ss none 0)=htl (h.wS []) ((h.wS []).sg ag cg) ((h.wS []).ss none 0):=by
 cases h;dsimp only at hs;subst hs;rfl
def Z2B (h:Hse) (l:List Int) (d:Int) (k:Nat):Bool:=decide (na (h.weeksV l) k ≠ -1)&&decide (na (h.weeksV l) k≤d)
theorem Z8H {h:Hse} (hk:h.ok) {l:List Int} (hm:msk l<2 ^ 7) {d:Int} (hd:d≤9) {k:Nat} (hk2:k<h.bins.toNat):Z2B h l d k=decide (na (Z6h h.gaps (clP []) (msk l) h.bins.toNat) k≤d):=by
 unfold Z2B
 rcases ZbH hk hm hk2 with ⟨h1,h2⟩ | ⟨h1,h2⟩
 · rw [h2,decide_eq_false (show ¬ na (Z6h h.gaps (clP []) (msk l) h.bins.toNat) k≤d by omega)];rfl
 · have hnn:0≤na (Z6h h.gaps (clP []) (msk l) h.bins.toNat) k:=by
     rw [Z4P hk2,show clP []=fun _=>0 from rfl,Z7x hk.wth hm]
     have h3:=Z5i h.gaps 0 (msk l) k
     cases decide (far≤wk h.gaps 0 (msk l) k) with
     | true=>exact (by decide:(0:Int)≤100)
     | false=>exact h3.1
   rw [h2,decide_eq_true (show na (Z6h h.gaps (clP []) (msk l) h.bins.toNat) k ≠ -1 by omega),Bool.true_and]
theorem Zcj {h:Hse} (hk:h.ok) {l:List Int} (hf:∀ x∈l,0≤x∧x<h.bins) (hm:msk l<2 ^ 7) {ss:List Sgt} (ht:Tru h l ss) (hl:ss.length<8) {d:Int} (hd:0≤d∧d≤9) {k:Nat} (hk2:k<h.bins.toNat) {sn:Bool} (hs:sn=Z2B h l d k) :
   Tru h l (ss++[⟨d,k,sn⟩])∧(h.wS ss).seeE ⟨d,k,sn⟩=0∧(h.wS ss).seeH ⟨d,k,sn⟩=h.wS (ss++[⟨d,k,sn⟩]):=by
 have hbn:=hk.bins
 have he:exS h.gaps (msk l) ⟨d,k,sn⟩=true:=Zeg hk hf hd (by dsimp only;rw [hs,Z8H hk hm hd.2 hk2,Z4P hk2];rfl)
 have ht2:=ht.snoc (s:=⟨d,k,sn⟩) ⟨hd,by dsimp only;omega,by dsimp only;omega⟩ he
 have h1:(h.wS ss).ok:=Z3G hk (by omega) ht.ok
 have h2:(h.wS (ss++[⟨d,k,sn⟩])).ok:=Z3G hk (by rw [List.length_append,List.length_singleton];omega) ht2.ok
 have h3:(h.wS ss).seeE ⟨d,k,sn⟩=0:=(ZaJ (hse_ok.2 h1) (by show ss.length≠8;omega)).trans (hse_ok.2 h2)
 exact ⟨ht2,h3,Z1i h3⟩
theorem Zb2 {b:Ro.Rb} {z:Nat→Int} (t:Ro.RTru b z) (h:0<(Ro.selL b.aloneB b.n).length):∃ k,k<b.n∧0<z k:=by
 obtain ⟨k,hk⟩:=List.exists_mem_of_length_pos h
 obtain ⟨h1,h2⟩:=List.mem_filter.1 hk
 have h3:=t.alone (Ro.Rb.alone_iff.1 h2)
 exact ⟨k,List.mem_range.1 h1,by omega⟩
theorem Z9R {b:Ro.Rb} {z:Nat→Int} (t:Ro.RTru b z) (h:(Ro.selL b.aloneB b.n).length=0) (h2:(Ro.selL b.opn b.n).length=0):∀ k,k<b.n→z k=0:=fun k hk=>by
 have h3:=t.top hk
 have h4:=t.ht k hk
 have h5:=List.eq_nil_of_length_eq_zero h
 have h6:=List.eq_nil_of_length_eq_zero h2
 have a1:b.aloneB k≠true:=fun e=>by
   have:k∈Ro.selL b.aloneB b.n:=List.mem_filter.2 ⟨List.mem_range.2 hk,e⟩
   rw [h5] at this;cases this
 have a2:b.opn k≠true:=fun e=>by
   have:k∈Ro.selL b.opn b.n:=List.mem_filter.2 ⟨List.mem_range.2 hk,e⟩
   rw [h6] at this;cases this
 unfold Ro.Rb.opn at a2
 rw [Bool.eq_false_iff.2 a1,Bool.not_false,Bool.and_true] at a2
 have a3:¬ 0<b.top k:=fun e=>a2 (decide_eq_true e)
 omega
structure HtOk (n:Nat) (bt:Bool) (hl:List Int):Prop where
 len:hl.length=n
 rng:∀ z∈hl,0≤z∧z≤9
 hot:bt=true→∃ z∈hl,0<z
 cold:bt=false→∀ z∈hl,z=0
theorem HtOk.ht {n:Nat} {bt:Bool} {hl:List Int} (h:HtOk n bt hl):∀ k,k<n→0≤Ro.na hl k∧Ro.na hl k≤9:=fun k hk=>h.rng _ (List.mem_of_getElem? (Ro.na_get (by rw [h.len];exact hk)))
theorem HtOk.sees {n:Nat} {bt:Bool} {hl:List Int} (h:HtOk n bt hl) {b:Ro.Rb} (hb:b.n=n) (t:Ro.RTru b (Ro.na hl)) {sn:Bool} (hs:sn=decide (0<(Ro.selL b.aloneB b.n).length)) (hc:sn=true∨(Ro.selL b.opn b.n).length=0):sn=bt:=by
 cases sn with
 | true =>
   obtain ⟨k,h1,h2⟩:=Zb2 t (of_decide_eq_true hs.symm)
   cases bt with
   | true=>rfl
   | false =>
     have:=h.cold rfl _ (List.mem_of_getElem? (Ro.na_get (l:=hl) (k:=k) (by rw [h.len];omega)))
     omega
 | false =>
   have h0:=of_decide_eq_false hs.symm
   have h1:=Z9R t (by omega) (hc.resolve_left (fun e=>by cases e))
   cases bt with
   | false=>rfl
   | true =>
     obtain ⟨z,hz,hp⟩:=h.hot rfl
     obtain ⟨k,hk⟩:=List.mem_iff_getElem?.1 hz
     have hkl:k<n:=by have:=(List.getElem?_eq_some_iff.1 hk).1;rw [h.len] at this;exact this
     have:=h1 k (by omega)
     rw [Ro.na_of hk] at this;omega
theorem HtOk.zero {n:Nat}:HtOk n false (List.replicate n 0):=⟨by simp,fun z hz=>by rw [(List.mem_replicate.1 hz).2];decide,fun e=>(by cases e),fun _ z hz=>(List.mem_replicate.1 hz).2⟩
theorem Zce {C W:Nat} {z:Nat→Int} (h:∀ k,k<C*W→0≤z k∧z k≤9):Ro.RTru ⟨C,W,[]⟩ z:=⟨h,fun x hx=>(by cases hx)⟩
theorem Zek {C W:Nat} {rods:List Ro.Rd} {hl:List Int} (h:∀ k,k<C*W→0≤Ro.na hl k∧Ro.na hl k≤9) (x:Ro.Rd):0≤Ro.Rb.feel ⟨C,W,rods⟩ (Ro.na hl) x∧Ro.Rb.feel ⟨C,W,rods⟩ (Ro.na hl) x≤9 :=
 ⟨Ro.feel_nn _ _ _ _,Ro.feel_ub (by decide) _ fun k hk _=>by have h1:=h k hk;have h2:=Ro.dsC_nn C k x.c x.r;show _-Ro.dsC C k x.c x.r≤9;omega⟩
theorem put_mem {l:List Int} {i:Nat} {v z:Int} (h:z∈l.set i v):z∈l∨z=v:=List.mem_or_eq_of_mem_set h
theorem Zcn {l:List Value} {k:Nat} {v:Value} (h:k<l.length):spl l k [v]=l.set k v:=by
 simp only [spl,List.length_singleton,List.append_assoc,List.singleton_append]
 rw [List.set_eq_take_append_cons_drop,if_pos h]
theorem Zaf {l:List Int} {i k:Nat} {v:Int} (hk:k<l.length) (e:i=k):spl (Zj l) i [.int .i64 v]=Zj (l.set k v):=by
 subst e
 rw [Zcn (by simp [Zj];exact hk)]
 unfold Zj
 rw [List.map_set]
theorem Zae (l:List Int):(Zj l).length=l.length:=by simp [Zj]
theorem Z8I {q:Hse} (hk:q.ok) (ha:q.agr q.sights=true) {l:List Int} (hl:∀ x∈l,0≤x∧x<q.bins) (he:expl q.gaps (msk l) q.sights=true) {w:Int} (hw:0≤w∧w≤9) {b:Nat} (hb:b<q.bins.toNat):(Z4f (q.surR w).1 (b:Int)=true→Z2B q l w b=true)∧(Z2B q l w b=true→Z4f (q.perR w).1 (b:Int)=true):=by
 have hm:msk l<2 ^ 7:=Z2n fun x hx=>by have:=hl x hx;have:=hk.bins;omega
 obtain ⟨h1,h2,_⟩:=ZaT hk ha hl he hw hb
 rw [Z8H hk hm hw.2 hb,decide_eq_true_eq]
 exact ⟨h1,h2⟩
theorem Zem (p:Nat→Bool) {n b:Nat} (hb:b<n):Z4f (Z0A p n) (b:Int)=p b:=by
 rw [Bool.eq_iff_iff,hasI_iff,fltK_mem]
 constructor
 · rintro ⟨k,_,h2,h3⟩
   obtain rfl:b=k:=by omega
   exact h2
 · exact fun h=>⟨b,hb,h,rfl⟩
theorem Zbn (b:Ro.Rb) (a:Option Addr) (c:Nat) (hb:b.ok) (l:List Int) (n:Nat) (hn:l.length=n) (ak:Option Addr) (ck:Nat) (hl:l.length=b.n) (hh:∀ x∈l,0≤x∧x≤9) (x:Ro.Rd) (hx:(0≤x.c∧x.c<b.cols)∧(0≤x.r∧x.r<b.rows)∧0≤x.g∧x.g≤3) (H:Z7) (R:Z5) [hB:MemRows a 4 (Ro.rdrows b.rods) R] [hL:MemRows ak 1 (irows l) R]:FnV Tryz.prog 9 [b.v a c,.slice ak n ck,.agg #[.int .i64 x.c,.int .i64 x.r],.int .i64 x.g] H R (.tuple #[.int .i64 (b.feel (Ro.na l) x),.int .i64 0]):=by
 subst hn;exact Ro.c_Feels b a c hb l ak ck hl hh x hx H R
set_option maxHeartbeats 2000000 in
theorem c_TopBitten (l0:List Int) (a0:Option Addr) (c0:Nat) (hl0:l0.length≤9223372036854775807) (l1:List Int) (a1:Option Addr) (c1:Nat) (hl1:l1.length≤9223372036854775807) (n2:Int) (hn2:0≤n2∧n2≤255) (H:Z7) (R:Z5) [hG0:MemRows a0 1 (Z45 l0) R] [hG1:MemRows a1 1 (Z45 l1) R] :
    Fn Tryz.prog 4 [.slice a0 l0.length c0,.slice a1 l1.length c1,.int .u8 n2] H R (fun v H' R'=>v = .bool true∧H'=H∧R'=R):=by
 refine Z8 Tryz.func4 rfl Tryz.ntmps4 rfl ?_
 refine sqt 1 rfl (pur 1 rfl (sqt 9 rfl (pur 1 rfl ?_)))
 refine cl rfl ZkB rfl rfl (ZcF l0 a0 c0 hl0 _ _) ?_
 rintro _ _ R1 ⟨bk,mk,hmk,rfl,rfl,hR1⟩
 obtain rfl:=hR1.symm
 clear hR1
 refine cl rfl Zj6 rfl rfl (ZfF l0 a0 c0 bk hl0 0 mk (by omega) hmk 6 7 (by omega) (by omega) _ _) ?_
 rintro _ _ R1 ⟨h,p,ag,ar,cg,cr,tqb,mxb,hmd,hcg,hcr,rfl,htqb,hmxb,rfl,hR1⟩
 obtain rfl:=hR1.symm
 clear hR1
 have hok:=hmd.ok (by omega) (by omega)
 have hck:=hse_ok.2 hok
 have hbn:=hok.bins
 have hgl:=hok.gl
 have hsl:=hok.sl
 have hnb:=hmd.bins
 have hng:=hmd.gl
 have hss:=hmd.none
 obtain ⟨B,hB⟩:∃ B:Nat,h.bins=B:=⟨h.bins.toNat,by omega⟩
 have hBt:h.bins.toNat=B:=by omega
 have hfb:=Z0M p h.bins.toNat
 have hfr:=Za1 p (show 0≤h.bins by omega)
 have hfe:=Zel p (show 0≤h.bins by omega)
 have hm7:msk (Z0A p h.bins.toNat)<2 ^ 7:=Z2n fun x hx=>by have:=hfr x hx;omega
 refine pur 3 rfl (alc rfl Z2e rfl (fun b7=>?_))
 refine ZU (l':=htl h (h.sg ag cg) (h.ss none 0)) rfl rfl rfl Z24 rfl rfl rfl rfl (nl rfl) ?_
 refine pur 1 rfl (sqt 3 rfl (pur 1 rfl ?_))
 refine cl rfl ZkB rfl rfl (ZcF l1 a1 c1 hl1 _ _) ?_
 rintro _ _ R1 ⟨bq,mq,hmq,rfl,rfl,hR1⟩
 obtain rfl:=hR1.symm
 clear hR1
 obtain ⟨fr,hfq⟩:∃ fr,fr=Z0A p h.bins.toNat:=⟨_,rfl⟩
 rw [← hfq] at hfr hfe hm7 hcr hfb ⊢
 refine pur 1 rfl (sqt 4 rfl (pur 1 rfl (sp rfl (PE.conv64 us5 ik3 rfl (by omega)) rfl ?_)))
 have hd9:0≤n2%10∧n2%10≤9:=⟨Int.emod_nonneg _ (by decide),by have:=Int.emod_lt_of_pos n2 (show (0:Int)<10 by decide);omega⟩
 refine sp rfl (PE.rem rfl rfl (by omega)) rfl (pur 1 rfl (sqt 8 rfl (spL rfl rfl (lhA (htl h (h.sg ag cg) (h.ss none 0)) Z0e rfl rfl rfl) rfl (pur 1 rfl ?_))))
 refine cl rfl Zj7 rfl rfl (Zbp h ag none cg 0 hok fr ar cr hfe (by omega) hcr _ _) ?_
 rintro _ _ R1 ⟨aw,cw,rfl,rfl,hR1⟩
 obtain rfl:=hR1.symm
 clear hR1
 have hWl:=Z4q hok fr
 refine pur 5 rfl (Z0 (sqt 9 rfl (pur 3 rfl ?_)))
 refine Zr 50 rfl ?_ ?_<;>intro g50
 exact absurd g50 (by simp)
 refine pur 1 rfl ?_
 refine spG rfl rfl rfl rfl (PE.lenSl Z0t rfl) rfl ?_
 refine spG rfl rfl rfl rfl (PE.fA Z0r rfl) rfl ?_
 refine Z0L rfl rfl rfl rfl rfl (lh (v:=.int .i64 h.bins) sc3 rfl rfl) rfl (pur 2 rfl ?_)
 refine Z1 rfl ?_ ?_<;>intro hc0
 exact absurd hc0 (by simp;omega)
 try simp only [cS] at hc0
 rw [ZhT hss,hss]
 refine Zp (a:=aw) (sz:=1) (rows:=irows (h.weeksV fr)) (ne0 (by rw [irl];omega)) (fun bw bwo hebw=>?_)
 subst hebw
 refine Z3 (sqt 1 rfl (pur 1 rfl (Z0 (sqt 3 rfl (pur 1 rfl (sp rfl (PE.lenSl Z0t rfl) rfl (pur 1 rfl (Z2 ?_))))))))
 refine Zc (ι:=(x:{x:Nat×List Sgt×(Option Addr×Nat)×(Option Addr×Nat)×Int×Int // x.1≤h.bins.toNat∧Tru h fr x.2.1∧x.2.1.length≤x.1∧h.gaps.length≤x.2.2.1.2∧x.2.1.length≤x.2.2.2.1.2∧(0≤x.2.2.2.2.1∧x.2.2.2.2.1≤x.1*30+0)∧(0≤x.2.2.2.2.2∧x.2.2.2.2.2≤4294967295)})×OSl 3 1 (irows (Z0A (Z2B h fr (n2%10)) (x.1.1)))) (fun x=>⟨[(7,.pointer (some ⟨b7,0,none⟩)),(8,.slice ar fr.length cr),(9,.pointer (some ⟨bq,0,none⟩)),(10,.int .i64 (n2%10)),(13,x.2.fs),(57,.slice (some ⟨bw,bwo,none⟩) h.bins.toNat cw),(58,.int .i64 (h.bins.toNat:Nat)),(59,.int .i64 (x.1.1.1:Int))],(bq,cel 83 [.slice a1 l1.length c1,.int .i64 (x.1.1.2.2.2.2.1),.int .u32 (x.1.1.2.2.2.2.2)])::(x.2.G++(b7,cel 62 (htl (h.wS x.1.1.2.1) ((h.wS x.1.1.2.1).sg x.1.1.2.2.1.1 x.1.1.2.2.1.2) ((h.wS x.1.1.2.1).ss x.1.1.2.2.2.1.1 x.1.1.2.2.2.1.2)))::(bk,cel 83 [.slice a0 l0.length c0,.int .i64 (tqb),.int .u32 (mxb)])::H),RowsA x.1.1.2.2.2.1.1 3 (Zs x.1.1.2.1)::RowsA x.1.1.2.2.1.1 2 (Zy h.gaps)::RowsA (some ⟨bw,bwo,none⟩) 1 (irows (h.weeksV fr))::RowsA ar 1 (irows fr)::R⟩) (fun x=>h.bins.toNat-x.1.1.1) ⟨⟨(0,[],(ag,cg),(none,0),0,mq),Nat.zero_le _,⟨fun s hs=>(by cases hs),rfl⟩,Nat.zero_le _,hcg,Nat.zero_le _,by dsimp only;omega,by assumption⟩,OSl.nil _ _⟩ ?_ (fun x=>?_)
 exact Zi (fun w h9=>(h9.pull bq).facts (fun g hg=>by simp only [List.mem_cons] at hg ⊢;rcases hg with h8 | h8 | h8 | h8 | h8<;>simp [h8]))
 obtain ⟨⟨⟨i,ss,⟨ag2,cg2⟩,⟨as2,cs2⟩,tq,mx⟩,hi,htr,hsl2,hcg2,hcs2,htq,hmx⟩,o⟩:=x
 dsimp only at hi htr hsl2 hcg2 hcs2 htq hmx o ⊢
 have hfl:=Z0M (Z2B h fr (n2%10)) i
 refine sqt 1 rfl (pur 1 rfl (Z0 ?_))
 refine Z1 rfl ?_ ?_<;>intro hc1<;>try simp only [cS] at hc1
 have hib:i<h.bins.toNat:=by omega
 have hgw:=na_get (l:=h.weeksV fr) (k:=i) (by rw [hWl];exact hib)
 refine Z3 (Z0 (Z2 (sqt 5 rfl (pur 1 rfl (sp rfl (PE.indexAddr Z5G rfl rfl (by omega) (by omega)) rfl (spL rfl rfl (lf0 sc3 (Z1W hgw) rfl) rfl (pur 2 rfl (sqt 7 rfl (pur 1 rfl ?_)))))))))
 refine cl rfl Z80 rfl rfl (Z3l l1 a1 c1 bq hl1 _ _ (by omega) (by assumption) (1) (3) (by omega) _ _) ?_
 rintro _ _ R1 ⟨x65,m65,hx65,rfl,hm65,rfl,hR1⟩
 obtain rfl:=hR1.symm
 refine pur 1 rfl ?_
 refine cl rfl Z80 rfl rfl (Z3l l1 a1 c1 bq hl1 _ _ (by omega) (by assumption) (1) (3) (by omega) _ _) ?_
 rintro _ _ R1 ⟨x67,m67,hx67,rfl,hm67,rfl,hR1⟩
 obtain rfl:=hR1.symm
 obtain ⟨C,rfl⟩:∃ C:Nat,x65=C:=⟨x65.toNat,by omega⟩
 obtain ⟨W,rfl⟩:∃ W:Nat,x67=W:=⟨x67.toNat,by omega⟩
 have hCW:(C:Int)*(W:Int)=((C*W:Nat):Int):=by simp
 have hCW9:C*W≤3*3:=Nat.mul_le_mul (by omega) (by omega)
 have hCW1:1*1≤C*W:=Nat.mul_le_mul (by omega) (by omega)
 refine sp rfl (PE.build (out:=[.int .i64 (C:Int),.int .i64 (W:Int),.slice none 0 0]) Zib Zb8 rfl rfl) rfl (alc rfl Zb8 rfl (fun b16=>?_))
 refine sto rfl rfl rfl ZcU rfl rfl rfl rfl ?_
 refine sqt 7 rfl (sp rfl (PE.fA Z2W rfl) rfl (spL rfl rfl (lh (v:=.int .i64 (C:Int)) sc3 rfl rfl) rfl (sp rfl (PE.fA Z2X rfl) rfl (spL rfl rfl (lh (v:=.int .i64 (W:Int)) sc3 rfl rfl) rfl (sp rfl (PE.mul rfl rfl (by omega)) rfl ?_)))))
 rw [hCW]
 refine mkS (l:=C*W) (c:=C*W) rfl Z6g zl3 rfl rfl (Nat.le_refl _) (by omega) rfl (fun b74=>?_)
 rw [Zk7]
 refine pur 1 rfl (Z0 (Z0 ?_))
 refine Z2u (ι:=Unit) (fun _=>⟨[(7,.pointer (some ⟨b7,0,none⟩)),(8,.slice ar fr.length cr),(9,.pointer (some ⟨bq,0,none⟩)),(10,.int .i64 (n2%10)),(13,o.fs),(14,.int .i64 (i:Int)),(16,.pointer (some ⟨b16,0,none⟩)),(17,.slice (some ⟨b74,0,none⟩) (C*W) (C*W)),(57,.slice (some ⟨bw,bwo,none⟩) h.bins.toNat cw),(58,.int .i64 (h.bins.toNat:Nat)),(59,.int .i64 (i:Int)),(81,.bool (Z2B h fr (n2%10) i))],(b74,cel 3 (Zj (List.replicate (C*W) 0)))::(b16,cel 39 [.int .i64 (C:Int),.int .i64 (W:Int),.slice none 0 0])::(bq,cel 83 [.slice a1 l1.length c1,.int .i64 (tq+1+1),.int .u32 (m67)])::(o.G++(b7,cel 62 (htl (h.wS ss) ((h.wS ss).sg ag2 cg2) ((h.wS ss).ss as2 cs2)))::(bk,cel 83 [.slice a0 l0.length c0,.int .i64 (tqb),.int .u32 (mxb)])::H),RowsA as2 3 (Zs ss)::RowsA ag2 2 (Zy h.gaps)::RowsA (some ⟨bw,bwo,none⟩) 1 (irows (h.weeksV fr))::RowsA ar 1 (irows fr)::R⟩) ?_ ?_
 refine sqr 7 rfl (pur 3 rfl ?_)
 refine Zr 77 rfl ?_ ?_<;>intro g77
 try simp only [cS] at g77
 have hb0:Z2B h fr (n2%10) i=decide (na (h.weeksV fr) i≤(n2%10)):=by unfold Z2B;rw [decide_eq_true g77,Bool.true_and]
 refine pur 4 rfl ?_
 exact Z1F () (by dsimp only;rw [hb0];exact sbA) idH
 try simp only [cS] at g77
 have hb0:Z2B h fr (n2%10) i=false:=by unfold Z2B;rw [decide_eq_false g77,Bool.false_and]
 refine pur 4 rfl ?_
 exact Z1F () (by dsimp only;rw [hb0];exact sbA) idH
 rintro _
 dsimp only
 refine Z3R (ι:=(x:{x:List Int×Int×Int // HtOk (C*W) (Z2B h fr (n2%10) i) x.1∧(0≤x.2.1∧x.2.1≤i*30+10)∧(0≤x.2.2∧x.2.2≤4294967295)})×OSl 3 1 (irows (Z0A (Z2B h fr (n2%10)) (i+1)))) (fun x=>⟨[(7,.pointer (some ⟨b7,0,none⟩)),(8,.slice ar fr.length cr),(9,.pointer (some ⟨bq,0,none⟩)),(10,.int .i64 (n2%10)),(13,x.2.fs),(14,.int .i64 (i:Int)),(16,.pointer (some ⟨b16,0,none⟩)),(17,.slice (some ⟨b74,0,none⟩) (C*W) (C*W)),(57,.slice (some ⟨bw,bwo,none⟩) h.bins.toNat cw),(58,.int .i64 (h.bins.toNat:Nat)),(59,.int .i64 (i:Int))],(bq,cel 83 [.slice a1 l1.length c1,.int .i64 (x.1.1.2.1),.int .u32 (x.1.1.2.2)])::(b74,cel 3 (Zj (x.1.1.1)))::(b16,cel 39 [.int .i64 (C:Int),.int .i64 (W:Int),.slice none 0 0])::(x.2.G++(b7,cel 62 (htl (h.wS ss) ((h.wS ss).sg ag2 cg2) ((h.wS ss).ss as2 cs2)))::(bk,cel 83 [.slice a0 l0.length c0,.int .i64 (tqb),.int .u32 (mxb)])::H),RowsA as2 3 (Zs ss)::RowsA ag2 2 (Zy h.gaps)::RowsA (some ⟨bw,bwo,none⟩) 1 (irows (h.weeksV fr))::RowsA ar 1 (irows fr)::R⟩) ?_ ?_
 refine Z1 rfl ?_ ?_<;>intro hc2<;>try simp only [cS] at hc2
 refine sqt 5 rfl (pur 2 rfl ?_)
 refine bsl (out:=[_]) rfl Z36 zl3 rfl rfl rfl rfl rfl rfl (fun b84=>?_)
 refine apO (o) rfl Z6g rfl rfl (Z0l (row:=[.int .i64 (i:Int)]) rfl) rfl rfl ((by rw [irl];simp only [List.length_singleton];omega)) rfl (fun o85=>?_)
 refine pur 1 rfl (sqt 3 rfl ?_)
 refine ZQ bq ?_
 refine pur 1 rfl ?_
 refine cl rfl Z80 rfl rfl (Z3l l1 a1 c1 bq hl1 _ _ (by omega) (by assumption) (1) (3) (by omega) _ _) ?_
 rintro _ _ R1 ⟨x87,m87,hx87,rfl,hm87,rfl,hR1⟩
 obtain rfl:=hR1.symm
 obtain ⟨n87,rfl⟩:∃ n:Nat,x87=n:=⟨x87.toNat,by omega⟩
 refine pur 1 rfl (Z2 ?_)
 refine Zc (ι:={x:Nat×List Int×Int×Int // x.1≤n87∧x.2.1.length=C*W∧(∀ z∈x.2.1,0≤z∧z≤9)∧(0<x.1→∃ z∈x.2.1,0<z)∧(0≤x.2.2.1∧x.2.2.1≤i*30+3+2*x.1)∧(0≤x.2.2.2∧x.2.2.2≤4294967295)}) (fun x=>⟨[(7,.pointer (some ⟨b7,0,none⟩)),(8,.slice ar fr.length cr),(9,.pointer (some ⟨bq,0,none⟩)),(10,.int .i64 (n2%10)),(13,o85.fs),(14,.int .i64 (i:Int)),(16,.pointer (some ⟨b16,0,none⟩)),(17,.slice (some ⟨b74,0,none⟩) (C*W) (C*W)),(57,.slice (some ⟨bw,bwo,none⟩) h.bins.toNat cw),(58,.int .i64 (h.bins.toNat:Nat)),(59,.int .i64 (i:Int)),(87,.int .i64 (n87:Int)),(88,.int .i64 (x.1.1:Int))],(bq,cel 83 [.slice a1 l1.length c1,.int .i64 (x.1.2.2.1),.int .u32 (x.1.2.2.2)])::(b74,cel 3 (Zj (x.1.2.1)))::(b16,cel 39 [.int .i64 (C:Int),.int .i64 (W:Int),.slice none 0 0])::(o85.G++(b7,cel 62 (htl (h.wS ss) ((h.wS ss).sg ag2 cg2) ((h.wS ss).ss as2 cs2)))::(bk,cel 83 [.slice a0 l0.length c0,.int .i64 (tqb),.int .u32 (mxb)])::H),RowsA as2 3 (Zs ss)::RowsA ag2 2 (Zy h.gaps)::RowsA (some ⟨bw,bwo,none⟩) 1 (irows (h.weeksV fr))::RowsA ar 1 (irows fr)::R⟩) (fun x=>n87-x.1.1) ⟨(0,List.replicate (C*W) 0,tq+1+1+1,m87),by omega,by simp,fun z hz=>by rw [(List.mem_replicate.1 hz).2];decide,fun h=>absurd h (Nat.lt_irrefl _),by dsimp only;omega,by assumption⟩ ?_ (fun x=>?_)
 exact Zi (fun w h9=>h9.del b84)
 obtain ⟨⟨k,hl,tq2,mx2⟩,hk,hlen,hrng,hhot,htq2,hmx2⟩:=x
 dsimp only at hk hlen hrng hhot htq2 hmx2 ⊢
 refine sqt 1 rfl (pur 1 rfl (Z0 ?_))
 refine Z1 rfl ?_ ?_<;>intro hc3<;>try simp only [cS] at hc3
 refine Z3 (Z0 (Z2 (sqr 9 rfl (pur 3 rfl (sp rfl (PE.lenSl Z0t rfl) rfl ?_)))))
 refine cl rfl Z1y rfl rfl (Z02 l1 a1 c1 bq hl1 _ _ (by omega) (by assumption) (((C*W:Nat):Int)) _ _) ?_
 rintro _ _ R1 ⟨x94,m94,hx94,rfl,hm94,rfl,hR1⟩
 obtain rfl:=hR1.symm
 refine pur 1 rfl ?_
 refine cl rfl Z80 rfl rfl (Z3l l1 a1 c1 bq hl1 _ _ (by omega) (by assumption) (1) (9) (by omega) _ _) ?_
 rintro _ _ R1 ⟨x96,m96,hx96,rfl,hm96,rfl,hR1⟩
 obtain rfl:=hR1.symm
 refine sp rfl (PE.indexAddr Z5G rfl rfl (by omega) (by omega)) rfl ?_
 refine ZU (l':=Zj (hl.set x94.toNat x96)) rfl rfl rfl cn3 rfl rfl rfl (Zaf (l:=hl) (k:=x94.toNat) (by omega) (by show 0+x94.toNat*1=_;omega)) (by rw [Zae,hlen];show 0+x94.toNat*1+1≤_;omega) ?_
 refine sqr 2 rfl (sp rfl (PE.add rfl rfl (by omega)) rfl (pur 1 rfl ?_))
 exact Z6 ⟨(k+1,hl.set x94.toNat x96,tq2+1+1,m96),by dsimp only;omega,by dsimp only;rw [List.length_set];exact hlen,fun z hz=>(put_mem hz).elim (hrng z) (fun e=>by omega),fun _=>⟨x96,List.mem_of_getElem? (i:=x94.toNat) (by rw [List.getElem?_set_self (by omega)]),by omega⟩,by dsimp only;omega,by assumption⟩ idH
 refine Z9 (Za (Za (Zn ?_)))
 exact ZX ⟨⟨(hl,tq2,mx2),by rw [hc2];exact ⟨hlen,hrng,fun _=>hhot (by omega),fun e=>by cases e⟩,by dsimp only;omega,by assumption⟩,o85.cast (by rw [Z6z hc2];simp [irows])⟩ idH
 refine Z3 ?_
 exact ZX ⟨⟨(List.replicate (C*W) 0,tq+1+1,m67),by rw [hc2];exact HtOk.zero,by dsimp only;omega,by assumption⟩,o.cast (by rw [Z4J hc2])⟩ (fun w h9=>h9.pull bq)
 rintro ⟨⟨⟨hl,tq3,mx3⟩,hho,htq3,hmx3⟩,o3⟩
 dsimp only at hho htq3 hmx3 o3 ⊢
 refine Z0 (sqt 3 rfl ?_)
 refine Sy.heap (fun w h=>St.norows (sz:=4) (St.intRows (l:=hl) (h.pull b74))) ?_
 refine pur 1 rfl ?_
 refine cl rfl Z1y rfl rfl (Z02 l1 a1 c1 bq hl1 _ _ (by omega) (by assumption) (5) _ _) ?_
 rintro _ _ R1 ⟨x100,m100,hx100,rfl,hm100,rfl,hR1⟩
 obtain rfl:=hR1.symm
 obtain ⟨n100,rfl⟩:∃ n:Nat,x100=n:=⟨x100.toNat,by omega⟩
 have hf3:=Z0M (Z2B h fr (n2%10)) (i+1)
 refine pur 1 rfl (Z2 ?_)
 refine Zc (ι:={x:Nat×List Ro.Rd×(Option Addr×Nat)×Int×Int // x.1≤n100∧Ro.RTru ⟨C,W,x.2.1⟩ (Ro.na hl)∧Ro.Rb.ok ⟨C,W,x.2.1⟩∧x.2.1.length≤x.1∧(0≤x.2.2.2.1∧x.2.2.2.1≤i*30+11+3*x.1)∧(0≤x.2.2.2.2∧x.2.2.2.2≤4294967295)}) (fun x=>⟨[(7,.pointer (some ⟨b7,0,none⟩)),(8,.slice ar fr.length cr),(9,.pointer (some ⟨bq,0,none⟩)),(10,.int .i64 (n2%10)),(13,o3.fs),(14,.int .i64 (i:Int)),(16,.pointer (some ⟨b16,0,none⟩)),(17,.slice (some ⟨b74,0,none⟩) (C*W) (C*W)),(57,.slice (some ⟨bw,bwo,none⟩) h.bins.toNat cw),(58,.int .i64 (h.bins.toNat:Nat)),(59,.int .i64 (i:Int)),(100,.int .i64 (n100:Int)),(101,.int .i64 (x.1.1:Int))],(bq,cel 83 [.slice a1 l1.length c1,.int .i64 (x.1.2.2.2.1),.int .u32 (x.1.2.2.2.2)])::(b16,cel 39 (Ro.rbl (⟨C,W,x.1.2.1⟩) x.1.2.2.1.1 x.1.2.2.1.2))::(o3.G++(b7,cel 62 (htl (h.wS ss) ((h.wS ss).sg ag2 cg2) ((h.wS ss).ss as2 cs2)))::(bk,cel 83 [.slice a0 l0.length c0,.int .i64 (tqb),.int .u32 (mxb)])::H),RowsA x.1.2.2.1.1 4 (Ro.rdrows x.1.2.1)::RowsA (some ⟨b74,0,none⟩) 1 (irows hl)::RowsA as2 3 (Zs ss)::RowsA ag2 2 (Zy h.gaps)::RowsA (some ⟨bw,bwo,none⟩) 1 (irows (h.weeksV fr))::RowsA ar 1 (irows fr)::R⟩) (fun x=>n100-x.1.1) ⟨(0,[],(none,0),tq3+1,m100),by omega,Zce (fun k hk=>hho.ht k hk),⟨⟨by dsimp only;omega,by dsimp only;omega⟩,⟨by dsimp only;omega,by dsimp only;omega⟩,Nat.zero_le _,fun x hx=>(by cases hx)⟩,Nat.zero_le _,by dsimp only;omega,by assumption⟩ ?_ (fun x=>?_)
 exact Zi idH
 obtain ⟨⟨k,rods,⟨ax,cx⟩,tq4,mx4⟩,hk,hrt,hrok,hrl,htq4,hmx4⟩:=x
 dsimp only at hk hrt hrok hrl htq4 hmx4 ⊢
 refine sqt 1 rfl (pur 1 rfl (Z0 ?_))
 refine Z1 rfl ?_ ?_<;>intro hc4<;>try simp only [cS] at hc4
 refine Z3 (Z0 (Z2 (Z0 ?_)))
 refine Z2u (ι:={x:Int×Int×Int×Nat×Int×Int // (0≤x.1∧x.1<C)∧(0≤x.2.1∧x.2.1<W)∧(0≤x.2.2.1∧x.2.2.1≤3)∧(0≤x.2.2.2.2.1∧x.2.2.2.2.1≤i*30+14+3*k)∧(0≤x.2.2.2.2.2∧x.2.2.2.2.2≤4294967295)}) (fun x=>⟨[(7,.pointer (some ⟨b7,0,none⟩)),(8,.slice ar fr.length cr),(9,.pointer (some ⟨bq,0,none⟩)),(10,.int .i64 (n2%10)),(13,o3.fs),(14,.int .i64 (i:Int)),(16,.pointer (some ⟨b16,0,none⟩)),(17,.slice (some ⟨b74,0,none⟩) (C*W) (C*W)),(57,.slice (some ⟨bw,bwo,none⟩) h.bins.toNat cw),(58,.int .i64 (h.bins.toNat:Nat)),(59,.int .i64 (i:Int)),(18,.pointer (some ⟨x.1.2.2.2.1,0,none⟩)),(100,.int .i64 (n100:Int)),(101,.int .i64 (k:Int))],(x.1.2.2.2.1,cel 50 [.int .i64 x.1.1,.int .i64 x.1.2.1,.int .i64 x.1.2.2.1,.int .i64 0])::(bq,cel 83 [.slice a1 l1.length c1,.int .i64 (x.1.2.2.2.2.1),.int .u32 (x.1.2.2.2.2.2)])::(b16,cel 39 (Ro.rbl (⟨C,W,rods⟩) ax cx))::(o3.G++(b7,cel 62 (htl (h.wS ss) ((h.wS ss).sg ag2 cg2) ((h.wS ss).ss as2 cs2)))::(bk,cel 83 [.slice a0 l0.length c0,.int .i64 (tqb),.int .u32 (mxb)])::H),RowsA ax 4 (Ro.rdrows rods)::RowsA (some ⟨b74,0,none⟩) 1 (irows hl)::RowsA as2 3 (Zs ss)::RowsA ag2 2 (Zy h.gaps)::RowsA (some ⟨bw,bwo,none⟩) 1 (irows (h.weeksV fr))::RowsA ar 1 (irows fr)::R⟩) ?_ ?_
 refine Zd [0,0,2,7,0,0,32,127,255,0,767,2047,0,8191] (.tk 0 (.tk 1 (.ld 2 (.tk 4 (.tk 5 (.ld 6 (.tk 9 (.any (.alt 3 (.any (.alt 7 (.tk 8 (.any (.alt 10 (.tk 11 (.big 12 (.big 13 .done))) (.alt 12 (.big 10 (.tk 11 (.big 13 .done))) .stop)))) (.alt 12 (.big 7 (.tk 8 (.big 10 (.tk 11 (.big 13 .done))))) .stop))) (.alt 12 (.big 3 (.big 7 (.tk 8 (.big 10 (.tk 11 (.big 13 .done)))))) .stop)))))))))) Zu (by kernel_rfl) ?_
 refine Zo 1 rfl (tk rfl (PE.fA Z2W rfl) rfl (ld rfl rfl (lh (v:=.int .i64 (C:Int)) sc3 rfl rfl) rfl (Zo 1 rfl (tk rfl (PE.fA Z2X rfl) rfl (ld rfl rfl (lh (v:=.int .i64 (W:Int)) sc3 rfl rfl) rfl (Zo 1 rfl ?_))))))
 refine Zm ?_ ?_
 refine ZQ bq ?_
 refine cl rfl Z1y rfl rfl (Z02 l1 a1 c1 bq hl1 _ _ (by omega) (by assumption) ((C:Int)) _ _) ?_
 rintro _ _ R1 ⟨x106,m106,hx106,rfl,hm106,rfl,hR1⟩
 obtain rfl:=hR1.symm
 refine bg (fun w hs=>⟨(lh (v:=.int .i64 (W:Int)) sc3 rfl rfl) w hs,trivial,trivial⟩) ?_
 refine Zm ?_ ?_
 refine ZQ bq ?_
 refine cl rfl Z1y rfl rfl (Z02 l1 a1 c1 bq hl1 _ _ (by omega) (by assumption) ((W:Int)) _ _) ?_
 rintro _ _ R1 ⟨x110,m110,hx110,rfl,hm110,rfl,hR1⟩
 obtain rfl:=hR1.symm
 refine bgT (tk rfl (PE.build (out:=[.int .i64 x106,.int .i64 x110]) Zc8 Z4s rfl rfl) rfl ?_)
 refine Zm ?_ ?_
 refine ZQ bq ?_
 refine cl rfl Z1y rfl rfl (Z02 l1 a1 c1 bq hl1 _ _ (by omega) (by assumption) (4) _ _) ?_
 rintro _ _ R1 ⟨x113,m113,hx113,rfl,hm113,rfl,hR1⟩
 obtain rfl:=hR1.symm
 refine bgT (tk rfl (PE.build (out:=[.int .i64 x106,.int .i64 x110,.int .i64 x113,.int .i64 0]) Zc9 Z46 rfl rfl) rfl (alc rfl Z46 rfl (fun b18=>bgT ?_)))
 refine sto rfl rfl rfl Zba rfl rfl rfl rfl ?_
 refine bgT ?_
 exact Zh ⟨(x106,x110,x113,b18,tq4+1+1+1,_),by dsimp only;omega,by dsimp only;omega,by dsimp only;omega,by dsimp only;omega,by assumption⟩ (fun w h=>h.pull b18)
 refine Zm ?_ ?_
 refine alc rfl Z46 rfl (fun b18=>bgT ?_)
 refine ZQ bq ?_
 refine cl rfl Z1y rfl rfl (Z02 l1 a1 c1 bq hl1 _ _ (by omega) (by assumption) (4) _ _) ?_
 rintro _ _ R1 ⟨x113,m113,hx113,rfl,hm113,rfl,hR1⟩
 obtain rfl:=hR1.symm
 refine bgT (tk rfl (PE.build (out:=[.int .i64 x106,.int .i64 x110,.int .i64 x113,.int .i64 0]) Zc9 Z46 rfl rfl) rfl ?_)
 refine sto rfl rfl rfl Zba rfl rfl rfl rfl ?_
 refine bgT ?_
 exact Zh ⟨(x106,x110,x113,b18,tq4+1+1+1,_),by dsimp only;omega,by dsimp only;omega,by dsimp only;omega,by dsimp only;omega,by assumption⟩ (fun w h=>h.pull b18)
 exact Zx
 refine Zm ?_ ?_
 refine alc rfl Z46 rfl (fun b18=>?_)
 refine bg (fun w hs=>⟨(lh (v:=.int .i64 (W:Int)) sc3 rfl rfl) w hs,trivial⟩) ?_
 refine ZQ bq ?_
 refine cl rfl Z1y rfl rfl (Z02 l1 a1 c1 bq hl1 _ _ (by omega) (by assumption) ((W:Int)) _ _) ?_
 rintro _ _ R1 ⟨x110,m110,hx110,rfl,hm110,rfl,hR1⟩
 obtain rfl:=hR1.symm
 refine bgT (tk rfl (PE.build (out:=[.int .i64 x106,.int .i64 x110]) Zc8 Z4s rfl rfl) rfl ?_)
 refine ZQ bq ?_
 refine cl rfl Z1y rfl rfl (Z02 l1 a1 c1 bq hl1 _ _ (by omega) (by assumption) (4) _ _) ?_
 rintro _ _ R1 ⟨x113,m113,hx113,rfl,hm113,rfl,hR1⟩
 obtain rfl:=hR1.symm
 refine bgT (tk rfl (PE.build (out:=[.int .i64 x106,.int .i64 x110,.int .i64 x113,.int .i64 0]) Zc9 Z46 rfl rfl) rfl ?_)
 refine sto rfl rfl rfl Zba rfl rfl rfl rfl ?_
 refine bgT ?_
 exact Zh ⟨(x106,x110,x113,b18,tq4+1+1+1,_),by dsimp only;omega,by dsimp only;omega,by dsimp only;omega,by dsimp only;omega,by assumption⟩ (fun w h=>h.pull b18)
 exact Zx
 refine Zm ?_ ?_
 refine alc rfl Z46 rfl (fun b18=>?_)
 refine bg (fun w hs=>⟨(lh (v:=.int .i64 (W:Int)) sc3 rfl rfl) w hs,(lh (v:=.int .i64 (C:Int)) sc3 rfl rfl) w hs,trivial⟩) ?_
 refine ZQ bq ?_
 refine cl rfl Z1y rfl rfl (Z02 l1 a1 c1 bq hl1 _ _ (by omega) (by assumption) ((C:Int)) _ _) ?_
 rintro _ _ R1 ⟨x106,m106,hx106,rfl,hm106,rfl,hR1⟩
 obtain rfl:=hR1.symm
 refine bg (fun w hs=>⟨(lh (v:=.int .i64 (W:Int)) sc3 rfl rfl) w hs,trivial,trivial⟩) ?_
 refine ZQ bq ?_
 refine cl rfl Z1y rfl rfl (Z02 l1 a1 c1 bq hl1 _ _ (by omega) (by assumption) ((W:Int)) _ _) ?_
 rintro _ _ R1 ⟨x110,m110,hx110,rfl,hm110,rfl,hR1⟩
 obtain rfl:=hR1.symm
 refine bgT (tk rfl (PE.build (out:=[.int .i64 x106,.int .i64 x110]) Zc8 Z4s rfl rfl) rfl ?_)
 refine ZQ bq ?_
 refine cl rfl Z1y rfl rfl (Z02 l1 a1 c1 bq hl1 _ _ (by omega) (by assumption) (4) _ _) ?_
 rintro _ _ R1 ⟨x113,m113,hx113,rfl,hm113,rfl,hR1⟩
 obtain rfl:=hR1.symm
 refine bgT (tk rfl (PE.build (out:=[.int .i64 x106,.int .i64 x110,.int .i64 x113,.int .i64 0]) Zc9 Z46 rfl rfl) rfl ?_)
 refine sto rfl rfl rfl Zba rfl rfl rfl rfl ?_
 refine bgT ?_
 exact Zh ⟨(x106,x110,x113,b18,tq4+1+1+1,_),by dsimp only;omega,by dsimp only;omega,by dsimp only;omega,by dsimp only;omega,by assumption⟩ (fun w h=>h.pull b18)
 exact Zx
 rintro ⟨⟨x106,x110,x113,b18,tq5,mx5⟩,h106,h110,h113,htq5,hmx5⟩
 dsimp only at h106 h110 h113 htq5 hmx5 ⊢
 refine Z0 (sqt 13 rfl (spL rfl rfl (lhA (Ro.rbl ⟨C,W,rods⟩ ax cx) ZT rfl rfl rfl) rfl (pur 1 rfl (sp rfl (PE.fA Z4d rfl) rfl (spL rfl rfl (lhA [.int .i64 x106,.int .i64 x110] Z2A rfl rfl rfl) rfl (sp rfl (PE.fA Z4e rfl) rfl (spL rfl rfl (lh (v:=.int .i64 x113) sc3 rfl rfl) rfl ?_)))))))
 refine cl rfl ZkN rfl rfl (Zbn ⟨C,W,rods⟩ ax cx hrok hl (C*W) hho.len (some ⟨b74,0,none⟩) (C*W) hho.len hho.rng ⟨x106,x110,x113,0⟩ (by dsimp only;omega) _ _) ?_
 rintro _ _ R1 ⟨rfl,rfl,hR1⟩
 obtain rfl:=hR1.symm
 clear hR1
 obtain ⟨sv,hsv⟩:∃ sv,sv=Ro.Rb.feel ⟨C,W,rods⟩ (Ro.na hl) ⟨x106,x110,x113,0⟩:=⟨_,rfl⟩
 rw [← hsv]
 refine pur 3 rfl (sp rfl (PE.fA Z2Y rfl) rfl ?_)
 refine ZU (l':=Ro.rdrow ⟨x106,x110,x113,sv⟩) rfl rfl rfl cn3 rfl rfl rfl rfl (nl rfl) ?_
 refine pur 1 rfl (sqt 2 rfl (pur 2 rfl ?_))
 refine Z1 rfl ?_ ?_<;>intro hc5
 exact absurd hc5 (by simp)
 have hsb:=Zek hho.ht (C:=C) (W:=W) (rods:=rods) ⟨x106,x110,x113,0⟩
 rw [← hsv] at hsb
 refine Z3 (sqt 8 rfl (spL rfl rfl (lhA (Ro.rbl ⟨C,W,rods⟩ ax cx) ZT rfl rfl rfl) rfl (spL rfl rfl (lhA (Ro.rdrow ⟨x106,x110,x113,sv⟩) Zb9 rfl rfl rfl) rfl ?_)))
 refine cl rfl Zj4 rfl rfl (Ro.c_Put ⟨C,W,rods⟩ ax cx hrok ⟨x106,x110,x113,sv⟩ (by dsimp only;omega) (by dsimp only;omega) _ _) ?_
 rintro _ _ R1 ⟨ax9,cx9,rfl,rfl,hR1⟩
 obtain rfl:=hR1.symm
 clear hR1
 rw [show (Ro.Rb.add ⟨C,W,rods⟩ ⟨x106,x110,x113,sv⟩).rods=rods++[⟨x106,x110,x113,sv⟩] from rfl]
 refine pur 3 rfl ?_
 refine ZU (l':=Ro.rbl ⟨C,W,rods++[⟨x106,x110,x113,sv⟩]⟩ ax9 cx9) rfl rfl rfl ZcU rfl rfl rfl rfl (nl rfl) ?_
 refine pur 1 rfl (sqt 2 rfl (pur 2 rfl ?_))
 refine Z1 rfl ?_ ?_<;>intro hc6
 exact absurd hc6 (by simp)
 refine Z3 (sqr 2 rfl (sp rfl (PE.add rfl rfl (by omega)) rfl (pur 1 rfl ?_)))
 exact Z6 ⟨(k+1,rods++[⟨x106,x110,x113,sv⟩],(ax9,cx9),tq5,mx5),by dsimp only;omega,hrt.more (by rw [hsv];rfl),Ro.Rb.add_ok hrok (by dsimp only;omega) (by dsimp only;omega),by dsimp only;rw [List.length_append,List.length_singleton];omega,by dsimp only;omega,by assumption⟩ (fun w h9=>by dsimp only;exact (h9.del b18).sub)
 refine Z9 (Za (Za (Zn (sqt 7 rfl (spL rfl rfl (lhA (Ro.rbl ⟨C,W,rods⟩ ax cx) ZT rfl rfl rfl) rfl ?_)))))
 refine cl rfl Zj8 rfl rfl (Ro.c_Warm ⟨C,W,rods⟩ ax cx hrok (fun x hx=>hrt.fits hx) _ _) ?_
 rintro _ _ R1 ⟨awm,cwm,rfl,rfl,hR1⟩
 obtain rfl:=hR1.symm
 clear hR1
 obtain ⟨lw,hlw⟩:∃ lw,lw=(Ro.selL (Ro.Rb.aloneB ⟨C,W,rods⟩) (Ro.Rb.n ⟨C,W,rods⟩)).length:=⟨_,rfl⟩
 rw [← hlw]
 refine pur 5 rfl (sqt 7 rfl (spL rfl rfl (lhA (Ro.rbl ⟨C,W,rods⟩ ax cx) ZT rfl rfl rfl) rfl ?_))
 refine cl rfl Zj9 rfl rfl (Ro.c_Open ⟨C,W,rods⟩ ax cx hrok (fun x hx=>hrt.fits hx) _ _) ?_
 rintro _ _ R1 ⟨aop,cop,rfl,rfl,hR1⟩
 obtain rfl:=hR1.symm
 clear hR1
 obtain ⟨lo,hlo⟩:∃ lo,lo=(Ro.selL (Ro.Rb.opn ⟨C,W,rods⟩) (Ro.Rb.n ⟨C,W,rods⟩)).length:=⟨_,rfl⟩
 rw [← hlo]
 refine pur 5 rfl (Z0 (sqt 6 rfl (pur 3 rfl ?_)))
 refine Zr 149 rfl ?_ ?_<;>intro g149
 exact absurd g149 (by simp)
 refine pur 3 rfl ?_
 refine Z1 rfl ?_ ?_<;>intro hc7
 exact absurd hc7 (by simp)
 refine Z3 (Z0 ?_)
 refine Z2u (ι:=Unit) (fun _=>⟨[(7,.pointer (some ⟨b7,0,none⟩)),(8,.slice ar fr.length cr),(9,.pointer (some ⟨bq,0,none⟩)),(10,.int .i64 (n2%10)),(13,o3.fs),(57,.slice (some ⟨bw,bwo,none⟩) h.bins.toNat cw),(58,.int .i64 (h.bins.toNat:Nat)),(59,.int .i64 (i:Int)),(14,.int .i64 (i:Int)),(19,.slice awm lw cwm),(160,.bool (decide ((0:Int)<(lw:Int))||decide ((lo:Int)=0)))],(bq,cel 83 [.slice a1 l1.length c1,.int .i64 (tq4),.int .u32 (mx4)])::(o3.G++(b7,cel 62 (htl (h.wS ss) ((h.wS ss).sg ag2 cg2) ((h.wS ss).ss as2 cs2)))::(bk,cel 83 [.slice a0 l0.length c0,.int .i64 (tqb),.int .u32 (mxb)])::H),RowsA as2 3 (Zs ss)::RowsA ag2 2 (Zy h.gaps)::RowsA (some ⟨bw,bwo,none⟩) 1 (irows (h.weeksV fr))::RowsA ar 1 (irows fr)::R⟩) ?_ ?_
 refine sqr 8 rfl (pur 1 rfl (sp rfl (PE.lenSl Z41 rfl) rfl (pur 2 rfl ?_)))
 refine Zr 156 rfl ?_ ?_<;>intro g156
 try simp only [cS] at g156
 have hg9:decide ((0:Int)<(lw:Int))=true:=dT (by omega)
 refine pur 4 rfl ?_
 exact Z1F () (by dsimp only;rw [hg9];exact sbA) (fun w h9=>by dsimp only;exact (h9.del b16).sub)
 try simp only [cS] at g156
 have hg9:decide ((0:Int)<(lw:Int))=false:=dF (by omega)
 refine pur 1 rfl ?_
 refine spG rfl rfl rfl rfl (PE.lenSl Z41 rfl) rfl ?_
 refine pur 2 rfl ?_
 exact Z1F () (by dsimp only;rw [hg9];exact sbA) (fun w h9=>by dsimp only;exact (h9.del b16).sub)
 rintro _
 dsimp only
 refine Z1 rfl ?_ ?_<;>intro hc8<;>try simp only [cS] at hc8
 have hsn:decide ((0:Int)<(lw:Int))=Z2B h fr (n2%10) i:=hho.sees (b:=⟨C,W,rods⟩) rfl hrt (by rw [← hlw];exact decide_eq_decide.2 (by omega)) (by
   rcases hc8 with h9 | h9
   · exact .inl (dT h9)
   · rw [← hlo];exact .inr (by omega))
 obtain ⟨hsee1,hsee2,hsee3⟩:=Zcj hok hfr hm7 htr (by omega) hd9 hib hsn
 refine sqt 13 rfl (spL rfl rfl (lhA (htl (h.wS ss) ((h.wS ss).sg ag2 cg2) ((h.wS ss).ss as2 cs2)) Z0e rfl rfl rfl) rfl (pur 3 rfl (sp rfl (PE.lenSl Z41 rfl) rfl (pur 1 rfl (sp rfl (PE.build (out:=[.int .i64 (n2%10),.int .i64 (i:Int),.bool (decide ((0:Int)<(lw:Int)))]) ZkW Zdq rfl rfl) rfl ?_)))))
 refine cl rfl Zja rfl rfl (ZiV (h.wS ss) ag2 as2 cg2 cs2 (by show h.gaps.length≤_;omega) (by show ss.length≤_;omega) ⟨(n2%10),(i:Int),(decide ((0:Int)<(lw:Int)))⟩ _ _) ?_
 rintro _ _ R1 ⟨agx,asx,cgx,csx,⟨hcgx,hcsx⟩,rfl,rfl,hR1⟩
 obtain rfl:=hR1.symm
 clear hR1
 rw [hsee3] at hcgx hcsx
 rw [hsee2,hsee3,show (h.wS (ss++[⟨(n2%10),(i:Int),(decide ((0:Int)<(lw:Int)))⟩])).gaps=h.gaps from rfl,show (h.wS (ss++[⟨(n2%10),(i:Int),(decide ((0:Int)<(lw:Int)))⟩])).sights=(ss++[⟨(n2%10),(i:Int),(decide ((0:Int)<(lw:Int)))⟩]) from rfl]
 have hcgx2:h.gaps.length≤cgx:=hcgx
 have hcsx2:((ss++[⟨(n2%10),(i:Int),(decide ((0:Int)<(lw:Int)))⟩]):List Sgt).length≤csx:=hcsx
 refine pur 3 rfl ?_
 refine ZU (l':=htl (h.wS (ss++[⟨(n2%10),(i:Int),(decide ((0:Int)<(lw:Int)))⟩])) ((h.wS (ss++[⟨(n2%10),(i:Int),(decide ((0:Int)<(lw:Int)))⟩])).sg agx cgx) ((h.wS (ss++[⟨(n2%10),(i:Int),(decide ((0:Int)<(lw:Int)))⟩])).ss asx csx)) rfl rfl rfl Z24 rfl rfl rfl rfl (nl rfl) ?_
 refine pur 1 rfl (sqt 2 rfl (pur 2 rfl ?_))
 refine Z1 rfl ?_ ?_<;>intro hc9
 exact absurd hc9 (by simp)
 try simp only [cS] at hc9
 refine Z3 (sqr 2 rfl (sp rfl (PE.add rfl rfl (by omega)) rfl (pur 1 rfl ?_)))
 exact Z6 ⟨⟨(i+1,(ss++[⟨(n2%10),(i:Int),(decide ((0:Int)<(lw:Int)))⟩]),(agx,cgx),(asx,csx),tq4,mx4),by dsimp only;omega,hsee1,by dsimp only;rw [List.length_append,List.length_singleton];omega,hcgx2,hcsx2,by dsimp only;omega,by assumption⟩,o3⟩ (fun w h9=>by dsimp only;exact h9.sub)
 refine Z3 (sqr 2 rfl (sp rfl (PE.add rfl rfl (by omega)) rfl (pur 1 rfl ?_)))
 exact Z6 ⟨⟨(i+1,ss,(ag2,cg2),(as2,cs2),tq4,mx4),by dsimp only;omega,htr,by dsimp only;omega,hcg2,hcs2,by dsimp only;omega,by assumption⟩,o3⟩ idH
 obtain rfl:i=h.bins.toNat:=by omega
 have hokq:(h.wS ss).ok:=Z3G hok (by omega) htr.ok
 have htq9:Tru (h.wS ss) fr (h.wS ss).sights:=⟨htr.ok,htr.ex⟩
 have haq:(h.wS ss).agr (h.wS ss).sights=true:=htq9.agr hokq hfr
 have hfeq:Z1S (h.wS ss).bins fr=0:=hfe
 have hqgl:(h.wS ss).gaps.length≤10:=hgl
 have hqsl:(h.wS ss).sights.length≤8:=hokq.sl
 have hsq:=Zfa (h.wS ss) (n2%10)
 have hpq:=ZeK (h.wS ss) (n2%10)
 have hqbb:(h.wS ss).bins.toNat=h.bins.toNat:=rfl
 obtain ⟨at9,ct9,het,hft⟩:=o.freeze
 rw [irl] at het
 rw [het]
 refine Sy.heap (H':=_) (fun w h9=>hft (h9.perm (List.perm_middle (l₁:=o.G) (a:=_)).symm)) ?_
 clear het hft
 refine Z9 (Za (Za (Zn (sqt 8 rfl (spL rfl rfl (lhA (htl (h.wS ss) ((h.wS ss).sg ag2 cg2) ((h.wS ss).ss as2 cs2)) Z0e rfl rfl rfl) rfl (pur 1 rfl ?_))))))
 refine clV rfl Zjb rfl rfl (Z6m (h.wS ss) ag2 as2 cg2 cs2 hokq fr ar cr hfeq htq9.ex (by omega) hcr _ _) ?_
 refine pur 5 rfl (sqt 7 rfl (spL rfl rfl (lhA (htl (h.wS ss) ((h.wS ss).sg ag2 cg2) ((h.wS ss).ss as2 cs2)) Z0e rfl rfl rfl) rfl ?_))
 refine cl rfl Zjc rfl rfl (Z8K (h.wS ss) ag2 as2 cg2 cs2 (by omega) (by omega) _ _) ?_
 rintro _ _ R1 ⟨aor,cor,hcor9,rfl,rfl,hR1⟩
 obtain rfl:=hR1.symm
 clear hR1
 obtain ⟨few,hfew,horg⟩:=Zi6 hokq haq
 rw [hfew] at hcor9 ⊢
 dsimp only at hcor9 ⊢
 have hfr2:few.length≤fr.length:=by
   have h5:=ZbE (p:=p) horg (by rw [show (h.wS ss).bins=h.bins from rfl,← hfq];exact htq9.ex)
   rw [show (h.wS ss).bins=h.bins from rfl,← hfq] at h5;exact h5
 refine pur 5 rfl (sqt 8 rfl (spL rfl rfl (lhA (htl (h.wS ss) ((h.wS ss).sg ag2 cg2) ((h.wS ss).ss as2 cs2)) Z0e rfl rfl rfl) rfl (pur 1 rfl ?_)))
 refine cl rfl Zjd rfl rfl (Zbo (h.wS ss) ag2 as2 cg2 cs2 (by omega) (by omega) (n2%10) _ _) ?_
 rintro _ _ R1 ⟨asr,csr,hcsr9,rfl,rfl,hR1⟩
 obtain rfl:=hR1.symm
 clear hR1
 rw [(Zdh hokq haq hd9).1]
 refine pur 5 rfl (sqt 8 rfl (spL rfl rfl (lhA (htl (h.wS ss) ((h.wS ss).sg ag2 cg2) ((h.wS ss).ss as2 cs2)) Z0e rfl rfl rfl) rfl (pur 1 rfl ?_)))
 refine cl rfl Zje rfl rfl (Z8L (h.wS ss) ag2 as2 cg2 cs2 (by omega) (by omega) (n2%10) _ _) ?_
 rintro _ _ R1 ⟨apr,cpr,hcpr9,rfl,rfl,hR1⟩
 obtain rfl:=hR1.symm
 clear hR1
 rw [(Zd8 hokq haq hd9).1]
 refine pur 5 rfl (Z0 (sqt 25 rfl (pur 3 rfl ?_)))
 refine Zr 200 rfl ?_ ?_<;>intro g200
 exact absurd g200 (by simp)
 refine pur 4 rfl ?_
 refine Zr 204 rfl ?_ ?_<;>intro g204
 exact absurd g204 (by simp)
 refine pur 4 rfl ?_
 refine Zr 208 rfl ?_ ?_<;>intro g208
 exact absurd g208 (by simp)
 refine pur 4 rfl ?_
 refine Zr 212 rfl ?_ ?_<;>intro g212
 exact absurd g212 (by simp)
 refine pur 4 rfl ?_
 refine Zr 216 rfl ?_ ?_<;>intro g216
 exact absurd g216 (by simp)
 refine pur 1 rfl ?_
 refine spG rfl rfl rfl rfl (PE.lenSl Z0t rfl) rfl ?_
 refine pur 1 rfl ?_
 refine spG rfl rfl rfl rfl (PE.lenSl Z0t rfl) rfl ?_
 refine pur 2 rfl ?_
 refine Z1 rfl ?_ ?_<;>intro hc10
 exact absurd hc10 (by simp;omega)
 refine Z3 (Z0 (sqt 3 rfl (sp rfl (PE.fA Z0r rfl) rfl (spL rfl rfl (lh (v:=.int .i64 h.bins) sc3 rfl rfl) rfl (pur 1 rfl (Z2 ?_))))))
 refine Zc (ι:={b:Nat // b≤h.bins.toNat}) (fun b=>⟨[(13,.slice at9 (Z0A (Z2B h fr (n2%10)) h.bins.toNat).length ct9),(26,.slice asr ((h.wS ss).surR (n2%10)).1.length csr),(28,.slice apr ((h.wS ss).perR (n2%10)).1.length cpr),(224,.int .i64 h.bins),(225,.int .i64 (b.1:Int))],(bq,cel 83 [.slice a1 l1.length c1,.int .i64 (tq),.int .u32 (mx)])::(b7,cel 62 (htl (h.wS ss) ((h.wS ss).sg ag2 cg2) ((h.wS ss).ss as2 cs2)))::(bk,cel 83 [.slice a0 l0.length c0,.int .i64 (tqb),.int .u32 (mxb)])::H,RowsA apr 1 (irows ((h.wS ss).perR (n2%10)).1)::RowsA asr 1 (irows ((h.wS ss).surR (n2%10)).1)::RowsA aor 1 (irows few)::RowsA at9 1 (irows (Z0A (Z2B h fr (n2%10)) h.bins.toNat))::RowsA as2 3 (Zs ss)::RowsA ag2 2 (Zy h.gaps)::RowsA (some ⟨bw,bwo,none⟩) 1 (irows (h.weeksV fr))::RowsA ar 1 (irows fr)::R⟩) (fun b=>h.bins.toNat-b.1) ⟨0,Nat.zero_le _⟩ ?_ (fun b=>?_)
 exact Zi idH
 obtain ⟨b,hb⟩:=b
 dsimp only at hb ⊢
 refine sqt 1 rfl (pur 1 rfl (Z0 ?_))
 refine Z1 rfl ?_ ?_<;>intro hc11<;>try simp only [cS] at hc11
 have hbB:b<h.bins.toNat:=by omega
 have hl0:=Zem (Z2B h fr (n2%10)) hbB
 have hs1:Z4f ((h.wS ss).surR (n2%10)).1 (b:Int)=true→Z4f (Z0A (Z2B h fr (n2%10)) h.bins.toNat) (b:Int)=true:=fun e=>hl0.trans ((Z8I hokq haq hfr htq9.ex hd9 (b:=b) hbB).1 e)
 have hs2:Z4f (Z0A (Z2B h fr (n2%10)) h.bins.toNat) (b:Int)=true→Z4f ((h.wS ss).perR (n2%10)).1 (b:Int)=true:=fun e=>(Z8I hokq haq hfr htq9.ex hd9 (b:=b) hbB).2 (hl0.symm.trans e)
 refine Z3 (Z0 (Z2 (sqt 2 rfl (pur 2 rfl (sqt 20 rfl (pur 2 rfl ?_))))))
 refine clV rfl Z4D rfl rfl (Z09 (((h.wS ss).surR (n2%10)).1) _ rfl asr csr (b:Int) (by omega) _ _) ?_
 refine pur 1 rfl ?_
 refine Zr 231 rfl ?_ ?_<;>intro g231
 refine pur 2 rfl ?_
 refine Z4F rfl rfl rfl rfl Z4D rfl rfl (Z09 ((Z0A (Z2B h fr (n2%10)) h.bins.toNat)) _ rfl at9 ct9 (b:Int) (by omega) _ _) ?_
 refine pur 3 rfl ?_
 refine Zr 237 rfl ?_ ?_<;>intro g237
 first | (focus (simp at g237;done)) | (rw [hs1 g231] at g237;(focus (simp at g237;done)))
 refine pur 2 rfl ?_
 refine Z4F rfl rfl rfl rfl Z4D rfl rfl (Z09 ((Z0A (Z2B h fr (n2%10)) h.bins.toNat)) _ rfl at9 ct9 (b:Int) (by omega) _ _) ?_
 refine pur 1 rfl ?_
 refine Zr 241 rfl ?_ ?_<;>intro g241
 refine pur 2 rfl ?_
 refine Z4F rfl rfl rfl rfl Z4D rfl rfl (Z09 (((h.wS ss).perR (n2%10)).1) _ rfl apr cpr (b:Int) (by omega) _ _) ?_
 refine pur 3 rfl ?_
 refine Z1 rfl ?_ ?_<;>intro hc12
 first | (focus (simp at hc12;done)) | (rw [hs2 g241] at hc12;simp at hc12)
 refine Z3 (sqr 2 rfl (sp rfl (PE.add rfl rfl (by omega)) rfl (pur 1 rfl ?_)))
 exact Z6 ⟨b+1,by omega⟩ idH
 refine pur 6 rfl ?_
 refine ZE rfl ?_
 refine Z3 (sqr 2 rfl (sp rfl (PE.add rfl rfl (by omega)) rfl (pur 1 rfl ?_)))
 exact Z6 ⟨b+1,by omega⟩ idH
 refine pur 8 rfl ?_
 refine Z4F rfl rfl rfl rfl Z4D rfl rfl (Z09 ((Z0A (Z2B h fr (n2%10)) h.bins.toNat)) _ rfl at9 ct9 (b:Int) (by omega) _ _) ?_
 refine pur 1 rfl ?_
 refine Zr 241 rfl ?_ ?_<;>intro g241
 refine pur 2 rfl ?_
 refine Z4F rfl rfl rfl rfl Z4D rfl rfl (Z09 (((h.wS ss).perR (n2%10)).1) _ rfl apr cpr (b:Int) (by omega) _ _) ?_
 refine pur 3 rfl ?_
 refine Z1 rfl ?_ ?_<;>intro hc12
 first | (focus (simp at hc12;done)) | (rw [hs2 g241] at hc12;simp at hc12)
 refine Z3 (sqr 2 rfl (sp rfl (PE.add rfl rfl (by omega)) rfl (pur 1 rfl ?_)))
 exact Z6 ⟨b+1,by omega⟩ idH
 refine pur 6 rfl ?_
 refine ZE rfl ?_
 refine Z3 (sqr 2 rfl (sp rfl (PE.add rfl rfl (by omega)) rfl (pur 1 rfl ?_)))
 exact Z6 ⟨b+1,by omega⟩ idH
 refine Z9 (Za (Za (Zn (sqt 2 rfl ?_))))
 refine clV rfl Zj5 rfl rfl (Z8P _ _) ?_
 refine pur 1 rfl (Z4 ?_)
 exact rtA rfl rfl rfl ⟨rfl,rfl,rfl⟩ (fun w h9=>(((h9.del bq).del b7).del bk).sub)
end Wv
end Go.Proofs.YthijcgkicjljhaaGreat
