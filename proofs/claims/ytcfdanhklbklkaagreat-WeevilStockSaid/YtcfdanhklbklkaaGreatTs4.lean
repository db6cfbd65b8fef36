/- Walks of the functions of the program, and the laws that join them: what the last theorem of this claim needs, in order. -/
import Derived.Test.YtcfdanhklbklkaaGreatTs3
namespace Go.Proofs.YtcfdanhklbklkaaGreat.Wv
set_option linter.unusedSimpArgs false
set_option linter.unusedVariables false
open Go
theorem Zcc:Z2q Tryz.prog 267=some 10:=by kernel_rfl
theorem ZdY:cal Tryz.prog 264=true:=by kernel_rfl
theorem Zhz:cal Tryz.prog 265=true:=by kernel_rfl
theorem ZjC:ZJ Tryz.prog 268=some 1:=by kernel_rfl
theorem Z4c:eqB Tryz.prog 10000 3=some (false,1):=by kernel_rfl
theorem Z4n:Z3g Tryz.prog 268=some (3,3):=by kernel_rfl
theorem Z4Q:Z3H Tryz.prog 10000 3=true:=by kernel_rfl
theorem Z7A:Z17 Tryz.prog 268=true:=by kernel_rfl
theorem Zkd:ZD Tryz.prog 268=some ([.map none]):=by kernel_rfl
theorem zv3:zvl Tryz.prog 3=some (.int .i64 0):=by kernel_rfl
def vkv (V:List (Nat×Int)):KV:=V.map fun x=>([(x.1:Int)],.int .i64 x.2)
def vb (V:List (Nat×Int)):List Int:=V.map fun x=>(x.1:Int)
theorem Z23 {V:List (Nat×Int)}:∀ e∈vkv V,e.1.length=1:=fun e he=>by obtain ⟨x,_,rfl⟩:=List.mem_map.1 he;rfl
theorem ZbR {V:List (Nat×Int)} (hn:(V.map (·.1)).Nodup) {u:Nat} {z:Int} (h:(u,z)∈V):(vkv V).get [(u:Int)]=some (.int .i64 z):=by
 induction V with
 | nil=>cases h
 | cons x V ih =>
   rw [List.map_cons,List.nodup_cons] at hn
   unfold vkv KV.get
   rw [List.map_cons,List.find?_cons]
   by_cases e:x.1=u
   · rw [show decide ([(x.1:Int)]=[(u:Int)])=true by simp [e]]
     rcases List.mem_cons.1 h with h1 | h1
     · rw [← h1];rfl
     · exact absurd (List.mem_map.2 ⟨(u,z),h1,rfl⟩) (e▸hn.1)
   · rw [show decide ([(x.1:Int)]=[(u:Int)])=false by simp;omega]
     exact ih hn.2 ((List.mem_cons.1 h).resolve_left fun h1=>e (by rw [← h1]))
theorem ZiA {V:List (Nat×Int)} {u:Nat} (h:u∉V.map (·.1)):(vkv V).get [(u:Int)]=none:=by
 unfold KV.get
 rw [List.find?_eq_none.2,Option.map_none]
 intro e he
 obtain ⟨x,hx,rfl⟩:=List.mem_map.1 he
 have:x.1≠u:=fun e2=>h (List.mem_map.2 ⟨x,hx,e2⟩)
 simp;omega
theorem Z7H {V:List (Nat×Int)} {u:Nat} (h:((vkv V).get [(u:Int)]).isSome=true):u∈V.map (·.1):=Classical.byContradiction fun hn=>by rw [ZiA hn] at h;cases h
theorem Z7I {V:List (Nat×Int)} (hn:(V.map (·.1)).Nodup) {u:Nat} (h:((vkv V).get [(u:Int)]).isSome=false):u∉V.map (·.1):=fun hm=>by
 obtain ⟨x,hx,rfl⟩:=List.mem_map.1 hm
 rw [ZbR hn (show (x.1,x.2)∈V from hx)] at h;cases h
theorem ZbS {V:List (Nat×Int)} {u:Nat} {z:Int} (h:u∉V.map (·.1)):(vkv V).put [(u:Int)] (.int .i64 z)=vkv (V++[(u,z)]):=by
 rw [Z5N (List.findIdx?_eq_none_iff.2 fun e he=>by
   obtain ⟨x,hx,rfl⟩:=List.mem_map.1 he
   have:x.1≠u:=fun e2=>h (List.mem_map.2 ⟨x,hx,e2⟩)
   simp;omega)]
 unfold vkv;rw [List.map_append];rfl
def frV (l:List Int):List (Nat×Int):=(l.map Int.toNat).map fun u=>(u,(-1:Int))
theorem ZaZ (l:List Int):(frV l).map (·.1)=l.map Int.toNat:=by unfold frV;rw [List.map_map];simp [Function.comp_def]
theorem ZcR {l:List Int} {k u:Nat} (h:l[k]?=some (u:Int)):frV (l.take (k+1))=frV (l.take k)++[(u,-1)]:=by
 unfold frV;rw [List.take_add_one,h];simp
theorem ZhY {l:List Int} (h:∀ x∈l,0≤x):vb (frV l)=l:=by
 unfold vb frV
 rw [List.map_map,List.map_map]
 have:∀ x∈l,(((fun x:Nat×Int=>(x.1:Int)) ∘ fun u:Nat=>(u,(-1:Int))) ∘ Int.toNat) x=x:=fun x hx=>by have:=h x hx;simp;omega
 rw [List.map_congr_left this,List.map_id']
theorem Zb0 {l:List Int} (h:∀ x∈l,0≤x) (hn:l.Nodup):(l.map Int.toNat).Nodup:=by
 rw [List.nodup_iff_pairwise_ne,List.pairwise_map]
 refine (List.nodup_iff_pairwise_ne.1 hn).imp_of_mem fun {a b} ha hb hab e=>?_
 have:=h a ha;have:=h b hb;omega
structure WI (gs:List Gp) (op:Nat→Bool) (f:Nat→Int) (S K:Nat) (V:List (Nat×Int)):Prop where
 s:Srch gs op f S K V
 no:∀ x∈V,K.testBit x.1=false
structure QN (e sz:Nat) (rows:List (List Value)) where
 a:Option Addr
 c:Nat
 G:Z8
 ok:(rows=[]∧a=none∧c=0∧G=[])∨∃ q:OQ e sz rows,q.fs = .slice a rows.length c∧q.G=G
def QN.of {e sz:Nat} {rows:List (List Value)} (q:OQ e sz rows):QN e sz rows:=⟨some ⟨q.b,q.off,none⟩,q.cap,q.G,.inr ⟨q,rfl,rfl⟩⟩
theorem QN.ofO {e sz:Nat} {rows:List (List Value)} (o:OSl e sz rows):∃ z:QN e sz rows,o.fs = .slice z.a rows.length z.c∧o.G=z.G:=by
 rcases o.is with ⟨rfl,h2,h3⟩ | ⟨b,cap,junk,h2,h3,h4,h5,h6⟩
 · exact ⟨⟨none,0,[],.inl ⟨rfl,rfl,rfl,rfl⟩⟩,h2,h3⟩
 · exact ⟨QN.of ⟨b,0,cap,[],junk,o.len,rfl,by omega,h5,h6⟩,h2,h3⟩
def QN.cast {e sz:Nat} {rows rows':List (List Value)} (q:QN e sz rows) (h:rows=rows'):QN e sz rows':=h▸q
theorem QN.cast_a {e sz:Nat} {rows rows':List (List Value)} (q:QN e sz rows) (h:rows=rows'):(q.cast h).a=q.a∧(q.cast h).c=q.c∧(q.cast h).G=q.G:=by subst h;exact ⟨rfl,rfl,rfl⟩
theorem Z3m {V:List (Nat×Int)} {j:Nat} {p:Nat×Int} (h:V[j]?=some p):Z6 ((vb V).drop j)=[.int .i64 (p.1:Int)]::Z6 ((vb V).drop (j+1)):=by
 have:(vb V)[j]?=some (p.1:Int):=by unfold vb;rw [List.getElem?_map,h];rfl
 rw [List.drop_eq_getElem_cons (List.getElem?_eq_some_iff.1 this).1,(List.getElem?_eq_some_iff.1 this).2];rfl
theorem Ziz {V:List (Nat×Int)} {j:Nat} (h:j≤V.length) (u:Nat) (z:Int):Z6 ((vb V).drop j)++[[.int .i64 (u:Int)]]=Z6 ((vb (V++[(u,z)])).drop j):=by
 have h2:vb (V++[(u,z)])=vb V++[(u:Int)]:=by unfold vb;rw [List.map_append];rfl
 rw [h2,List.drop_append_of_le_length (by unfold vb;rw [List.length_map];exact h)]
 simp [Z6]
theorem Z8V (V:List (Nat×Int)):(vb V).length=V.length:=List.length_map _
theorem irl (l:List Int):(Z6 l).length=l.length:=List.length_map _
theorem ZhZ {gs:List Gp} {op:Nat→Bool} {fl:List Int} {u k v:Nat} {g:Gp} (hg:gs[k]?=some g) (hr:0≤g.a∧0≤g.b) (hop:op k=true) (he:(g.a.toNat=u∧g.b.toNat=v)∨(g.b.toNat=u∧g.a.toNat=v)) (hne:g.a≠g.b) (h:frB gs fl k u=true):Stp gs op (na fl) u k v:=by
 rw [Z56 hg] at h
 refine ⟨g,hg,hop,?_⟩
 by_cases e:g.a=u
 · rw [decide_eq_true e,cond_true,decide_eq_true_eq] at h
   exact .inl ⟨by omega,by omega,h⟩
 · rw [decide_eq_false e,cond_false,decide_eq_true_eq] at h
   exact .inr ⟨by omega,by omega,h⟩
theorem ZjL {gs:List Gp} {op:Nat→Bool} {fl:List Int} {u k v:Nat} {g:Gp} (hg:gs[k]?=some g) (hr:0≤g.a∧0≤g.b) (hne:g.a≠g.b) (h:frB gs fl k u=false):¬ Stp gs op (na fl) u k v:=by
 rw [Z56 hg] at h
 rintro ⟨g',h1,_,h2⟩
 rw [hg] at h1
 obtain rfl:=Option.some.inj h1
 by_cases e:g.a=u
 · rw [decide_eq_true e,cond_true,decide_eq_false_iff_not] at h
   rcases h2 with h2 | h2<;>omega
 · rw [decide_eq_false e,cond_false,decide_eq_false_iff_not] at h
   rcases h2 with h2 | h2<;>omega
def Zkq (gs:List Gp) (op:Nat→Bool) (f:Nat→Int) (S K:Nat) (H:Z8) (R:Z4):Value→Z8→Z4→Prop:=fun v H' R'=>∃ (V:List (Nat×Int)) (m:Nat) (a:Option Addr) (c:Nat) (l:List (Nat×Nat)),
 v = .tuple #[.slice a l.length c,.map (some m)]∧H'=(m,Z0q false (vkv V))::H∧R'=RowsA a 1 (Z6 (l.map fun x=>(x.1:Int)))::R∧Srch gs op f S K V ∧
 ((l=[]∧Shn gs op f S K V)∨(l≠[]∧∃ u w,WayK gs op f S K u l w∧w∈V.map (·.1)∧∀ x∈V,K.testBit x.1=true→x.1=w))
theorem pW9 {α:Type} (A M H:List α) (b:α):(A++(b::(M++H))).Perm (M++(A++(b::H))):=((List.perm_middle (l₁:=M)).symm.append_left A).trans (List.perm_append_comm_assoc A M _)
def Zkp (gs:List Gp) (op:Nat→Bool) (f:Nat→Int) (S K:Nat) (H:Z8) (R:Z4):Value→Z8→Z4→Prop:=fun v H' R'=>∃ (V:List (Nat×Int)) (m:Nat) (l:List (Nat×Nat)) (o:OSl 3 1 (Z6 (l.map fun x=>(x.1:Int)))),
 v = .tuple #[o.fs,.map (some m)]∧H'=o.G++((m,Z0q false (vkv V))::H)∧R'=R∧Srch gs op f S K V ∧
 ((l=[]∧Shn gs op f S K V)∨(l≠[]∧∃ u w,WayK gs op f S K u l w∧w∈V.map (·.1)∧∀ x∈V,K.testBit x.1=true→x.1=w))
def Zde (l:List (Nat×Nat)):List Int:=(l.map fun x=>(x.1:Int)).reverse
theorem Zbu (i u:Nat) (l:List (Nat×Nat)):Zde ((i,u)::l)=Zde l++[(i:Int)]:=by unfold Zde;rw [List.map_cons,List.reverse_cons]
theorem Zdf (l:List (Nat×Nat)):(Zde l).reverse=l.map fun x=>(x.1:Int):=by unfold Zde;rw [List.reverse_reverse]
theorem Z1A {H:Z8} {R:Z4} {kv:KV} {s:Int} {v:Value} {m:Nat} (h1:∀ e∈kv,e.1.length=1) (hg:kv.get [s]=some v) [mm:Mem1 m (Z0q false kv) H] :
   ∀ w,St H R w→Lkp Tryz.prog 268 (.map (some m)) (mkv false [s]) false v w:=fun w hw=>by
 have h:=Z1W (b:=false) (m:=m) (H:=H) (R:=R) kv [s] Z4n (KeyT.of Z4c Z4Q) (Z0M zv3) rfl h1 false w hw
 rw [hg] at h
 exact h
set_option maxHeartbeats 2000000 in
theorem Zgx (d:Dk) (hd:d.Ok) (fl:List Int) (hfl:fl.length=10) (fr to_:List Int) (af at_:Option Addr) (cf ct:Nat) (hfr:∀ x∈fr,0≤x∧x<7) (hto:∀ x∈to_,0≤x∧x<7) (hnf:fr.Nodup) (hnt:to_.length≤1000000) (hdis:∀ x∈fr,x∉to_) (H:Z8) (R:Z4) [hD:MemRows (some ⟨d.bd,0,none⟩) 4 [d.row] R] [hG:MemRows d.ag 2 (grows d.h.gaps) R] [hS:MemRows d.as_ 3 (srows d.h.sights) R] [sR:SubF d.R0 R] [hF:MemRows af 1 (Z6 fr) R] [hT:MemRows at_ 1 (Z6 to_) R] :
    Fn Tryz.prog 225 [.pointer (some ⟨d.bd,0,none⟩),.agg (Zp fl).toArray,.slice af fr.length cf,.slice at_ to_.length ct] H R (Zkp d.h.gaps (fun i=>!d.cl.testBit i) (na fl) (msk fr) (msk to_) H R):=by
 refine Z8e Tryz.func225 rfl Tryz.ntmps225 rfl ?_
 refine sqt 5 rfl ?_
 have hok:=hd.ok
 have hbn:=hok.bins
 have hab:∀ (i:Nat) (g:Gp),d.h.gaps[i]?=some g→g.a.toNat≠g.b.toNat:=fun i g hg=>by have:=hok.gaps g (List.mem_of_getElem? hg);omega
 have hfn:∀ x∈fr,0≤x:=fun x hx=>(hfr x hx).1
 have hfl7:fr.length≤7:=by
   have h2:=(Zb0 hfn hnf).length_le_of_subset (l₂:=List.range 7) fun v hv=>by
     obtain ⟨x,hx,rfl⟩:=List.mem_map.1 hv
     have:=hfr x hx
     exact List.mem_range.2 (by omega)
   simpa using h2
 have hns:∀ v:Nat,(msk fr).testBit v=true→(msk to_).testBit v=false:=fun v hv=>by
   cases hk:(msk to_).testBit v with
   | false=>rfl
   | true=>exact absurd ((ZN (fun k hk=>(hto k hk).1) v).1 hk) (hdis _ ((ZN hfn v).1 hv))
 refine bx rfl rfl rfl (fun b4=>bx rfl rfl rfl (fun b5=>bx rfl rfl rfl (fun b7=>pur 2 rfl (Z8S (sqt 3 rfl ?_)))))
 refine mkm rfl rfl false (fun m=>?_)
 refine alc rfl Zkd rfl (fun b10=>?_)
 refine sto rfl rfl rfl ZjC rfl rfl rfl rfl ?_
 refine Z0 (sqt 3 rfl (pur 1 rfl (sp rfl (PE.lenSl ZT rfl) rfl (pur 1 rfl (Z3 ?_)))))
 refine Zb (ι:={k:Nat // k≤fr.length}) (fun k=>⟨[(2,.slice af fr.length cf),(4,.pointer (some ⟨b4,0,none⟩)),(5,.pointer (some ⟨b5,0,none⟩)),(7,.pointer (some ⟨b7,0,none⟩)),(10,.pointer (some ⟨b10,0,none⟩)),(24,.slice af fr.length cf),(25,.int .i64 fr.length),(26,.int .i64 k.1)],(b10,cel 268 [.map (some m)])::(m,Z0q false (vkv (frV (fr.take k.1))))::(b7,cel 23 [.slice at_ to_.length ct])::(b5,cel 267 (Zp fl))::(b4,cel 173 [.pointer (some ⟨d.bd,0,none⟩)])::H,R⟩) (fun k=>fr.length-k.1) ⟨0,Nat.zero_le _⟩ ?_ (fun k=>?_)
 exact Ze idH
 ·
  obtain ⟨k,hk⟩:=k
  dsimp only at hk ⊢
  refine sqt 1 rfl (pur 1 rfl (Z0 ?_))
  refine Z1 rfl ?_ ?_<;>intro hc0<;>try simp only [cS] at hc0
  obtain ⟨x,hx⟩:∃ x,fr[k]?=some x:=⟨_,List.getElem?_eq_getElem (by omega)⟩
  obtain ⟨u,rfl⟩:∃ u:Nat,x=u:=⟨x.toNat,by have:=hfr x (List.mem_of_getElem? hx);omega⟩
  have hun:u∉(frV (fr.take k)).map (·.1):=by
    rw [ZaZ]
    intro hm
    obtain ⟨y,hy,e⟩:=List.mem_map.1 hm
    have hy0:=hfn y (List.mem_of_mem_take hy)
    obtain ⟨i,hi⟩:=List.getElem?_of_mem hy
    have hik:i<k:=by have:=(List.getElem?_eq_some_iff.1 hi).1;rw [List.length_take] at this;omega
    rw [List.getElem?_take,if_pos hik] at hi
    have hl1:=(List.getElem?_eq_some_iff.1 hi).1
    have h3:=(List.getElem_inj hnf).1 ((List.getElem?_eq_some_iff.1 hi).2.trans ((show y=(u:Int) by omega).trans (List.getElem?_eq_some_iff.1 hx).2.symm))
    omega
  refine Zi (a:=af) (sz:=1) (rows:=Z6 fr) (ne0 (by rw [irl];omega)) (fun ba oa he=>?_)
  subst he
  refine Z2 (Z0 (Z3 (sqt 3 rfl (sp rfl (PE.indexAddr Z0G rfl rfl (by omega) (by omega)) rfl (spL rfl rfl (lf0 sc3 (ZQ hx) rfl) rfl (pur 1 rfl (sqr 3 rfl (spL rfl rfl (lh Z7A rfl rfl) rfl (pur 1 rfl ?_)))))))))
  refine mpu (vkv (frV (fr.take k))) [(u:Int)] (v:=.int .i64 (-1)) rfl Z4n (KeyT.of Z4c Z4Q) rfl rfl rfl rfl Z23 ?_
  rw [ZbS hun,← ZcR hx]
  refine sqr 2 rfl (sp rfl (PE.add rfl rfl (by omega)) rfl (pur 1 rfl ?_))
  exact Z7 ⟨k+1,by omega⟩ idH
  ·
   obtain rfl:k=fr.length:=by omega
   rw [List.take_length]
   refine Z9 (Za (Za (Zh (sqt 4 rfl (pur 1 rfl ?_)))))
   refine cl rfl Zar rfl rfl (Z2w fr af cf (by omega) _ _) ?_
   rintro _ _ R1 ⟨o,rfl,rfl,hR1,_⟩
   obtain rfl:=hR1.symm
   clear hR1
   obtain ⟨z0,hz0,hzG⟩:=QN.ofO o
   rw [hz0,hzG,irl]
   clear hz0 hzG
   refine alc rfl Zc2 rfl (fun b13=>?_)
   refine sto rfl rfl rfl Z6g rfl rfl rfl rfl ?_
   refine sqt 2 rfl (alc rfl zl3 rfl (fun b14=>?_))
   refine sto rfl rfl rfl cn3 rfl rfl rfl rfl ?_
   refine Z0 (Z8R (Z0 (Z3 ?_)))
   have hvb:Z6 fr=Z6 ((vb (frV fr)).drop 0):=by rw [ZhY hfn];rfl
   have hz:=z0.cast_a hvb
   have hs0:Srch d.h.gaps (fun i=>!d.cl.testBit i) (na fl) (msk fr) (msk to_) (frV fr):=Srch.start (Zb0 hfn hnf) (fun u hu=>by obtain ⟨x,hx,rfl⟩:=List.mem_map.1 hu;have:=hfr x hx;omega) (fun u=>by
     rw [ZN hfn]
     constructor
     · intro h;exact List.mem_map.2 ⟨_,h,by omega⟩
     · intro h;obtain ⟨x,hx,rfl⟩:=List.mem_map.1 h;have:=hfn x hx;rw [show ((x.toNat:Nat):Int)=x by omega];exact hx)
   have hw0:WI d.h.gaps (fun i=>!d.cl.testBit i) (na fl) (msk fr) (msk to_) (frV fr):=⟨hs0,fun x hx=>by
     have h1:x.1∈(frV fr).map (·.1):=List.mem_map.2 ⟨x,hx,rfl⟩
     rw [ZaZ] at h1
     obtain ⟨y,hy,e⟩:=List.mem_map.1 h1
     refine hns x.1 ((ZN hfn _).2 ?_)
     have:=hfn y hy
     rw [show ((x.1:Nat):Int)=y by omega];exact hy⟩
   rw [← hz.1,← hz.2.1,← hz.2.2]
   have hfe:fr.length=(frV fr).length-0:=by unfold frV;simp
   rw [show Value.slice (z0.cast hvb).a fr.length (z0.cast hvb).c = .slice (z0.cast hvb).a ((frV fr).length-0) (z0.cast hvb).c by rw [← hfe]]
   refine Z1G (ι:=(y:{y:List (Nat×Int)×Nat×List Nat // WI d.h.gaps (fun i=>!d.cl.testBit i) (na fl) (msk fr) (msk to_) y.1∧y.2.1≤y.1.length∧∀ q x,q<y.2.1→y.1[q]?=some x→∀ i v,Stp d.h.gaps (fun i=>!d.cl.testBit i) (na fl) x.1 i v→v∈y.1.map (·.1)})×QN 3 1 (Z6 ((vb y.1.1).drop y.1.2.1))) (fun y=>⟨[(4,.pointer (some ⟨b4,0,none⟩)),(5,.pointer (some ⟨b5,0,none⟩)),(7,.pointer (some ⟨b7,0,none⟩)),(10,.pointer (some ⟨b10,0,none⟩)),(13,.pointer (some ⟨b13,0,none⟩)),(14,.pointer (some ⟨b14,0,none⟩))],mks y.1.1.2.2,(b14,cel 3 [.int .i64 (-1)])::(b13,cel 23 [.slice y.2.a (y.1.1.1.length-y.1.1.2.1) y.2.c])::(y.2.G++((b10,cel 268 [.map (some m)])::(m,Z0q false (vkv (y.1.1.1)))::(b7,cel 23 [.slice at_ to_.length ct])::(b5,cel 267 (Zp fl))::(b4,cel 173 [.pointer (some ⟨d.bd,0,none⟩)])::(mkh y.1.1.2.2++H))),R⟩) (fun y=>8-y.1.1.2.1) ⟨⟨(frV fr,0,[]),hw0,Nat.zero_le _,fun q x h=>absurd h (Nat.not_lt_zero _)⟩,z0.cast hvb⟩ ?_ (fun y=>?_)
   exact Z4F sbA rfl idH
   ·
    obtain ⟨⟨⟨V,j,mk⟩,hwi,hjv,hcl⟩,a,c,G,hz⟩:=y
    dsimp only at hwi hjv hcl hz ⊢
    have hfew:=hwi.s.few
    refine Z0 (sqt 3 rfl (spL rfl rfl (lh Z0x rfl rfl) rfl (sp rfl (PE.lenSl ZT rfl) rfl (pur 1 rfl ?_))))
    refine Z1 rfl ?_ ?_<;>intro hc1<;>try simp only [cS] at hc1
    ·
     obtain ⟨p,hp⟩:∃ p,V[j]?=some p:=⟨_,List.getElem?_eq_getElem (by omega)⟩
     obtain ⟨u,zu⟩:=p
     rcases hz with ⟨h0,_⟩ | ⟨q,hqf,rfl⟩
     · exfalso;have:=congrArg List.length h0;rw [irl,List.length_drop,Z8V,List.length_nil] at this;omega
     unfold OQ.fs at hqf
     cases hqf
     have hu7:=hwi.s.lt _ (List.mem_of_getElem? hp)
     dsimp only at hu7
     refine Sy.heap (H':=(b14,cel 3 [.int .i64 (-1)])::(b13,cel 23 [.slice (some ⟨q.b,q.off,none⟩) (V.length-j) q.cap])::(q.b,cel 3 (q.pre++((Z6 ((vb V).drop j)).flatten++q.junk)))::((b10,cel 268 [.map (some m)])::(m,Z0q false (vkv (V)))::(b7,cel 23 [.slice at_ to_.length ct])::(b5,cel 267 (Zp fl))::(b4,cel 173 [.pointer (some ⟨d.bd,0,none⟩)])::(mkh mk++H))) idH ?_
     have hat:(q.pre++((Z6 ((vb V).drop j)).flatten++q.junk))[q.off+(0:Int).toNat*1]?=some (.int .i64 (u:Int)):=by
       have hfl2:(Z6 ((vb V).drop j)).flatten = .int .i64 (u:Int)::(Z6 ((vb V).drop (j+1))).flatten:=by rw [Z3m hp,List.flatten_cons];rfl
       rw [hfl2,show q.off+(0:Int).toNat*1=q.pre.length by rw [q.pl];simp,List.getElem?_append_right (Nat.le_refl _),Nat.sub_self];rfl
     obtain ⟨q2,hq2,hqG2⟩:=(q.cast (Z3m hp)).pop
     have hqc:(q.cast (Z3m hp)).b=q.b∧(q.cast (Z3m hp)).off=q.off∧(q.cast (Z3m hp)).cap=q.cap:=by
       generalize Z3m hp=e
       generalize [Value.int .i64 ((u,zu).1:Int)]::Z6 ((vb V).drop (j+1))=r at e
       subst e;exact ⟨rfl,rfl,rfl⟩
     rw [hqc.1,hqc.2.1,hqc.2.2,irl,List.length_drop,Z8V] at hq2
     rw [OQ.cast_G] at hqG2
     refine Z2 (Z3 (sqt 5 rfl (spL rfl rfl (lh Z0x rfl rfl) rfl (sp rfl (PE.indexAddr Z0G rfl rfl (by omega) (by omega)) rfl (spL rfl rfl (lh sc3 rfl hat) rfl (alc rfl zl3 rfl (fun b15=>?_)))))))
     refine sto rfl rfl rfl cn3 rfl rfl rfl rfl ?_
     refine sqt 3 rfl (spL rfl rfl (lh Z0x rfl rfl) rfl (sp rfl (PE.slLoA (l:=1) Z0F rfl rfl (by omega)) rfl ?_))
     have hq2e:Value.slice (if q.cap=1 then some ⟨q.b,q.off,none⟩ else (some (⟨q.b,q.off,none⟩:Addr)).map (·.add (1*1))) (V.length-j-1) (q.cap-1)=q2.fs:=by
       rw [hq2,Option.map_some,ZW,show V.length-(j+1)=V.length-j-1 by omega]
     rw [hq2e]
     refine ZB (l':=[q2.fs]) rfl rfl rfl Z6g rfl rfl rfl rfl (Nat.le_refl _) ?_
     refine Sy.heap (H':=(b15,cel 3 [.int .i64 (u:Int)])::(b14,cel 3 [.int .i64 (-1)])::(b13,cel 23 [q2.fs])::(q2.G++((b10,cel 268 [.map (some m)])::(m,Z0q false (vkv (V)))::(b7,cel 23 [.slice at_ to_.length ct])::(b5,cel 267 (Zp fl))::(b4,cel 173 [.pointer (some ⟨d.bd,0,none⟩)])::(mkh mk++H)))) (fun w h=>by rw [hqG2];exact h) ?_
     refine sqt 3 rfl (spL rfl rfl (lh Z4x rfl rfl) rfl (spL rfl rfl (lh sc3 rfl rfl) rfl ?_))
     refine cl rfl Zah rfl rfl (ZeV d.bd (u:Int) _ _) ?_
     rintro _ _ _ ⟨xd,xb,rfl,rfl,rfl⟩
     refine Z3 ?_
     refine Z3W rfl Zap (fun c0 bl0 bd0 hcp0 hca0 hcb0 hck0=>?_)
     refine ⟨fun st pend T R'=>(st = .ready∧pend=none∧∃ (E:List (Nat×Int)) (q3:OQ 3 1 (Z6 ((vb (V++E)).drop (j+1)))),WI d.h.gaps (fun i=>!d.cl.testBit i) (na fl) (msk fr) (msk to_) (V++E)∧(∀ i<d.h.gaps.length,∀ v,Stp d.h.gaps (fun i=>!d.cl.testBit i) (na fl) u i v→v∈(V++E).map (·.1))∧T=(bd0,.deferred (some []))::(b15,cel 3 [.int .i64 (u:Int)])::(b14,cel 3 [.int .i64 (-1)])::(b13,cel 23 [q3.fs])::(q3.G++((b10,cel 268 [.map (some m)])::(m,Z0q false (vkv (V++E)))::(b7,cel 23 [.slice at_ to_.length ct])::(b5,cel 267 (Zp fl))::(b4,cel 173 [.pointer (some ⟨d.bd,0,none⟩)])::(mkh mk++H)))∧R'=RowsA (some ⟨xb,0,none⟩) 1 [[.int .i64 (u:Int)]]::RowsA (some ⟨xd,0,none⟩) 1 [[.pointer (some ⟨d.bd,0,none⟩)]]::R)∨(st = .done∧pend=some (.exit 2)∧∃ (V2:List (Nat×Int)) (w:Nat) (q3:OQ 3 1 (Z6 ((vb V2).drop (j+1)))),Srch d.h.gaps (fun i=>!d.cl.testBit i) (na fl) (msk fr) (msk to_) V2∧(msk to_).testBit w=true∧w∈V2.map (·.1)∧(∀ x∈V2,(msk to_).testBit x.1=true→x.1=w)∧T=(bd0,.deferred (some []))::(b15,cel 3 [.int .i64 (u:Int)])::(b14,cel 3 [.int .i64 (w)])::(b13,cel 23 [q3.fs])::(q3.G++((b10,cel 268 [.map (some m)])::(m,Z0q false (vkv (V2)))::(b7,cel 23 [.slice at_ to_.length ct])::(b5,cel 267 (Zp fl))::(b4,cel 173 [.pointer (some ⟨d.bd,0,none⟩)])::(mkh mk++H)))∧R'=RowsA (some ⟨xb,0,none⟩) 1 [[.int .i64 (u:Int)]]::RowsA (some ⟨xd,0,none⟩) 1 [[.pointer (some ⟨d.bd,0,none⟩)]]::R),
       Fn.mono (Zae d hd u ⟨by omega,by omega⟩ xd xb bl0 (fun k H' R'=>∃ (E:List (Nat×Int)) (q3:OQ 3 1 (Z6 ((vb (V++E)).drop (j+1)))),WI d.h.gaps (fun i=>!d.cl.testBit i) (na fl) (msk fr) (msk to_) (V++E)∧(∀ i<k,∀ v,Stp d.h.gaps (fun i=>!d.cl.testBit i) (na fl) u i v→v∈(V++E).map (·.1))∧H'=(bl0,lob c0 .ready none)::(bd0,.deferred (some []))::(b15,cel 3 [.int .i64 (u:Int)])::(b14,cel 3 [.int .i64 (-1)])::(b13,cel 23 [q3.fs])::(q3.G++((b10,cel 268 [.map (some m)])::(m,Z0q false (vkv (V++E)))::(b7,cel 23 [.slice at_ to_.length ct])::(b5,cel 267 (Zp fl))::(b4,cel 173 [.pointer (some ⟨d.bd,0,none⟩)])::(mkh mk++H)))∧R'=RowsA (some ⟨xb,0,none⟩) 1 [[.int .i64 (u:Int)]]::RowsA (some ⟨xd,0,none⟩) 1 [[.pointer (some ⟨d.bd,0,none⟩)]]::R) (fun H' R'=>∃ (V2:List (Nat×Int)) (w:Nat) (q3:OQ 3 1 (Z6 ((vb V2).drop (j+1)))),Srch d.h.gaps (fun i=>!d.cl.testBit i) (na fl) (msk fr) (msk to_) V2∧(msk to_).testBit w=true∧w∈V2.map (·.1)∧(∀ x∈V2,(msk to_).testBit x.1=true→x.1=w)∧H'=(bl0,lob c0 .done (some (.exit 2)))::(bd0,.deferred (some []))::(b15,cel 3 [.int .i64 (u:Int)])::(b14,cel 3 [.int .i64 (w)])::(b13,cel 23 [q3.fs])::(q3.G++((b10,cel 268 [.map (some m)])::(m,Z0q false (vkv (V2)))::(b7,cel 23 [.slice at_ to_.length ct])::(b5,cel 267 (Zp fl))::(b4,cel 173 [.pointer (some ⟨d.bd,0,none⟩)])::(mkh mk++H)))∧R'=RowsA (some ⟨xb,0,none⟩) 1 [[.int .i64 (u:Int)]]::RowsA (some ⟨xd,0,none⟩) 1 [[.pointer (some ⟨d.bd,0,none⟩)]]::R)
         (fun i H' R' h9=>by obtain ⟨_,_,_,_,_,rfl⟩:=h9;exact ⟨List.mem_cons_of_mem _ (List.mem_cons_of_mem _ hD.mem),List.mem_cons_of_mem _ (List.mem_cons_of_mem _ hG.mem),by simp,by simp,fun g hg=>List.mem_cons_of_mem _ (List.mem_cons_of_mem _ (sR.sub g hg))⟩)
         (fun i g H' R' hg hn h9=>by
           obtain ⟨E,q3,h1,h2,h3,h4⟩:=h9
           refine ⟨E,q3,h1,fun i' hi' v hs=>?_,h3,h4⟩
           rcases Nat.lt_or_ge i' i with h5 | h5
           · exact h2 i' h5 v hs
           · obtain rfl:i'=i:=by omega
             obtain ⟨g',h6,h7,h8⟩:=hs
             rw [hg] at h6
             obtain rfl:=Option.some.inj h6
             have:=hok.gaps g (List.mem_of_getElem? hg)
             rcases hn with h9 | h9
             · have h7':(!d.cl.testBit i')=true:=h7
               rw [h9] at h7';cases h7'
             · omega)
         (fun k g q9 o9 H' R' hg hop hinc hI=>?_) _ _ ⟨[],q2.cast (by rw [List.append_nil]),by rw [List.append_nil];exact hwi,fun i hi=>absurd hi (Nat.not_lt_zero _),by rw [OQ.cast_fs,OQ.cast_G,List.append_nil],rfl⟩) (fun v H' R' h9=>?_),?_⟩
     rotate_left
     · rcases h9 with ⟨E,q3,h1,h2,rfl,rfl⟩ | ⟨V2,w,q3,h1,h2,h3,h4,rfl,rfl⟩
       · exact ⟨.ready,none,_,by simp,.refl _,.inl ⟨rfl,rfl,E,q3,h1,h2,rfl,rfl⟩⟩
       · exact ⟨.done,some (.exit 2),_,by simp,.refl _,.inr ⟨rfl,rfl,V2,w,q3,h1,h2,h3,h4,rfl,rfl⟩⟩
     rotate_left
     obtain ⟨E,q3,h1,h2,rfl,rfl⟩:=hI
     have hgo:=hok.gaps g (List.mem_of_getElem? hg)
     obtain ⟨v,hv,hv7,hadj,huq,hends⟩:=ZaK hg hop ⟨⟨by omega,by omega⟩,⟨by omega,by omega⟩,hgo.2.2⟩ hinc
     rw [hv]
     have hkg:=(List.getElem?_eq_some_iff.1 hg).1
     have hk10:=hok.gl
     have hfe:=h1.s.few
     obtain ⟨go,hgt⟩:∃ go,(vkv (V++E)).get [(v:Int)]=go:=⟨_,rfl⟩
     have hstep:∀ V2:List (Nat×Int),v∈V2.map (·.1)→∀ v2,Stp d.h.gaps (fun i=>!d.cl.testBit i) (na fl) u k v2→v2∈V2.map (·.1):=fun V2 hm v2 hs=>by
       obtain ⟨g',h6,h7,h8⟩:=hs
       rw [hg] at h6
       obtain rfl:=Option.some.inj h6
       rw [huq v2 (h8.imp (fun h=>⟨h.1,h.2.1⟩) (fun h=>⟨h.1,h.2.1⟩))]
       exact hm
     refine Zc0 hcp0 hca0 hcb0 hck0 rfl rfl ?_
     refine sqt 1 rfl (pur 1 rfl (sqr 1 rfl (pur 1 rfl ?_)))
     refine Z0R ?_
     refine Z3 (Z0 (sqt 8 rfl (spL rfl rfl (lh Z7A rfl rfl) rfl (pur 1 rfl ?_))))
     refine spK rfl rfl rfl (Z1W (b:=false) (vkv (V++E)) [(v:Int)] Z4n (KeyT.of Z4c Z4Q) (Z0M zv3) rfl Z23 true) rfl ?_
     rw [hgt]
     refine pur 5 rfl (sqt 9 rfl (pur 2 rfl ?_))
     refine Zw 55 rfl ?_ ?_<;>intro g55
     have hvm:=Z7H (hgt▸g55)
     refine pur 7 rfl ?_
     refine Z0S rfl ?_
     refine Z9 (Za (Zh ?_))
     exact Z0d (.inl ⟨rfl,_,rfl,E,q3,h1,fun i hi v2 hs=>(Nat.lt_succ_iff_lt_or_eq.1 hi).elim (fun h=>h2 i h v2 hs) (fun e=>by subst e;exact hstep _ hvm v2 hs),rfl,rfl⟩) idH
     have hvn:=Z7I h1.s.nd (hgt▸g55)
     refine Z0U rfl rfl rfl rfl rfl (lh Z4x rfl rfl) rfl (Z0U rfl rfl rfl rfl rfl (lhI fl Zcc rfl rfl (hfl)) rfl (pur 1 rfl (Z0U rfl rfl rfl rfl rfl (lh sc3 rfl rfl) rfl ?_)))
     refine Z9t rfl rfl rfl rfl Zhz rfl rfl (Zgo d hd fl hfl k g hg (u:Int) _ _) ?_
     refine pur 2 rfl ?_
     refine Z1 rfl ?_ ?_<;>intro hc2
     have hfb:frB d.h.gaps fl k u=false:=by simpa using hc2
     refine Z9 (Za (Zh ?_))
     exact Z0d (.inl ⟨rfl,_,rfl,E,q3,h1,fun i hi v2 hs=>(Nat.lt_succ_iff_lt_or_eq.1 hi).elim (fun h=>h2 i h v2 hs) (fun e=>by subst e;exact absurd hs (ZjL hg ⟨by omega,by omega⟩ hgo.2.2 hfb)),rfl,rfl⟩) idH
     have hfb:frB d.h.gaps fl k u=true:=by simpa using hc2
     have hst:Stp d.h.gaps (fun i=>!d.cl.testBit i) (na fl) u k v:=ZhZ hg ⟨by omega,by omega⟩ (by simp [hop]) hends hgo.2.2 hfb
     have hsm:=h1.s.more (j:=j) (y:=(u,zu)) (by rw [List.getElem?_append_left (List.getElem?_eq_some_iff.1 hp).1];exact hp) (hwi.no _ (List.mem_of_getElem? hp)) hst hv7 hvn
     have hsf:=hsm.few
     refine Z2 (sqt 4 rfl (spL rfl rfl (lh Z7A rfl rfl) rfl (pur 2 rfl ?_)))
     refine mpu (vkv (V++E)) [(v:Int)] (v:=.int .i64 (k:Int)) rfl Z4n (KeyT.of Z4c Z4Q) rfl rfl rfl rfl Z23 ?_
     rw [ZbS hvn]
     refine sqt 5 rfl (spL rfl rfl (lh Z0x rfl rfl) rfl (pur 1 rfl ?_))
     refine bsl (out:=[_]) rfl Z0F zl3 rfl rfl rfl rfl rfl rfl (fun b68=>?_)
     refine apQ q3 rfl Z37 rfl rfl (ZU (row:=[.int .i64 (v:Int)]) rfl) rfl (by simp) rfl (by rw [irl,List.length_drop,Z8V];simp only [List.length_singleton];omega) rfl (fun q4=>?_)
     refine ZB (l':=[q4.fs]) rfl rfl rfl Z6g rfl rfl rfl rfl (Nat.le_refl _) ?_
     refine sqt 3 rfl ?_
     obtain ⟨q5,e5,g5⟩:∃ q5:OQ 3 1 (Z6 ((vb (V++E++[(v,(k:Int))])).drop (j+1))),q5.fs=q4.fs∧q5.G=q4.G:=⟨q4.cast (Ziz (by rw [List.length_append];omega) v k),OQ.cast_fs _ _,OQ.cast_G _ _⟩
     have hvm:v∈(V++E++[(v,(k:Int))]).map (·.1):=by simp
     refine spL rfl rfl (lh Z0x rfl rfl) rfl (pur 1 rfl ?_)
     refine clV rfl Zai rfl rfl (Z0g to_ at_ ct v (by omega) _ _) ?_
     refine Z1 rfl ?_ ?_<;>intro hc3
     have hkv:(msk to_).testBit v=true:=(ZN (fun k hk=>(hto k hk).1) v).2 (hasI_iff.1 hc3)
     refine sqt 2 rfl (pur 1 rfl ?_)
     refine sto rfl rfl rfl cn3 rfl rfl rfl rfl ?_
     refine Z9 (Z05 (by decide) ?_)
     exact Z6Q (.inr ⟨rfl,_,rfl,V++E++[(v,(k:Int))],v,q5,hsm,hkv,hvm,fun x hx hxk=>by
       rcases List.mem_append.1 hx with h5 | h5
       · rw [h1.no x h5] at hxk;cases hxk
       · rw [List.mem_singleton.1 h5],rfl,rfl⟩) (fun _ h=>by rw [e5,g5];exact h.del b68)
     have hkv:(msk to_).testBit v=false:=by
       cases hb:(msk to_).testBit v with
       | false=>rfl
       | true=>have h8:Z5A to_ v=false:=hc3;rw [hasI_iff.2 ((ZN (fun k hk=>(hto k hk).1) v).1 hb)] at h8;cases h8
     refine Z2 ?_
     obtain ⟨q6,e6,g6⟩:∃ q6:OQ 3 1 (Z6 ((vb (V++(E++[(v,(k:Int))]))).drop (j+1))),q6.fs=q5.fs∧q6.G=q5.G:=⟨q5.cast (by rw [List.append_assoc]),OQ.cast_fs _ _,OQ.cast_G _ _⟩
     exact Z0d (.inl ⟨rfl,_,rfl,E++[(v,(k:Int))],q6,by
         rw [← List.append_assoc]
         exact ⟨hsm,fun x hx=>by
           rcases List.mem_append.1 hx with h5 | h5
           · exact h1.no x h5
           · rw [List.mem_singleton.1 h5];exact hkv⟩,fun i hi v2 hs=>by
         rw [← List.append_assoc]
         rcases Nat.lt_succ_iff_lt_or_eq.1 hi with h | h
         · have:=h2 i h v2 hs;rw [List.map_append];exact List.mem_append_left _ this
         · subst h;exact hstep _ hvm v2 hs,rfl,rfl⟩) (fun _ h=>by rw [e6,g6,e5,g5,← List.append_assoc];exact h.del b68)
     rintro _ _ _ _ (⟨rfl,rfl,E,q3,h1,h2,rfl,rfl⟩ | ⟨rfl,rfl,V2,w,q3,hsr,hkw,hwm,hun,rfl,rfl⟩)
     rotate_left
     refine Sy.heap (H':=(b14,cel 3 [.int .i64 (w:Int)])::(b10,cel 268 [.map (some m)])::(m,Z0q false (vkv (V2)))::(b5,cel 267 (Zp fl))::(b4,cel 173 [.pointer (some ⟨d.bd,0,none⟩)])::(mkh (bd0::mk)++H)) (R':=R) (fun w9 h=>St.sub ((St.drop (G:=q3.G) ((((h.del b15).del b13).del b7).perm (Zo [_,_] q3.G _))).perm (Zo [_] [_,_,_,_,_] _))) ?_
     rotate_left
     refine Zdp ?_
     have hj1:=(List.getElem?_eq_some_iff.1 hp).1
     exact Z2i ⟨⟨(V++E,j+1,bd0::mk),h1,by dsimp only;rw [List.length_append];omega,fun q x hq hx i v hs=>by
       rcases Nat.lt_or_ge q j with h5 | h5
       · rw [List.getElem?_append_left (by omega)] at hx
         have:=hcl q x h5 hx i v hs
         rw [List.map_append];exact List.mem_append_left _ this
       · obtain rfl:q=j:=by dsimp only at hq;omega
         rw [List.getElem?_append_left (by omega),hp] at hx
         obtain rfl:=Option.some.inj hx
         exact h2 i (by obtain ⟨g',h6,_⟩:=hs;exact (List.getElem?_eq_some_iff.1 h6).1) v hs⟩,QN.of q3⟩ (by dsimp only;omega) sbA rfl (fun w h=>by
       have e9:q3.fs = .slice (some ⟨q3.b,q3.off,none⟩) ((V++E).length-(j+1)) q3.cap:=by unfold OQ.fs;rw [irl,List.length_drop,Z8V]
       rw [e9] at h
       exact St.sub ((h.del b15).perm ((Zo [_] [_,_] _).trans (List.Perm.append_left [_,_] ((Zo [_] q3.G _).trans (List.Perm.append_left q3.G (Zo [_] [_,_,_,_,_] _)))))))
     refine Zk6 ?_
     refine Z9 (Z05 (by decide) (Z05 (by decide) (Za (Zh (sqt 1 rfl (pur 1 rfl (Z0 (sqt 2 rfl (spL rfl rfl (lh sc3 rfl rfl) rfl (pur 1 rfl (Z3 ?_)))))))))))
     obtain ⟨xw,hxw,hxe⟩:=List.mem_map.1 hwm
     obtain ⟨w',zw⟩:=xw
     dsimp only at hxe
     subst hxe
     obtain ⟨qw,hqw⟩:=List.getElem?_of_mem hxw
     refine Z1G (ι:=(x:{x:Nat×Nat×List (Nat×Nat) // Back d.h.gaps (fun i=>!d.cl.testBit i) (na fl) (msk fr) (msk to_) V2 w' x.1 x.2.1 x.2.2})×OSl 3 1 (Z6 (Zde x.1.2.2))) (fun y=>⟨[(4,.pointer (some ⟨b4,0,none⟩)),(10,.pointer (some ⟨b10,0,none⟩)),(20,y.2.fs),(21,.int .i64 (y.1.1.2.1:Int))],mks (bd0::mk),y.2.G++((b14,cel 3 [.int .i64 (w':Int)])::(b10,cel 268 [.map (some m)])::(m,Z0q false (vkv (V2)))::(b5,cel 267 (Zp fl))::(b4,cel 173 [.pointer (some ⟨d.bd,0,none⟩)])::(mkh (bd0::mk)++H)),R⟩) (fun y=>y.1.1.1) ⟨⟨(qw,w',[]),Back.start hqw⟩,OSl.nil _ _⟩ ?_ (fun y=>?_)
     exact Z4F sbA rfl idH
     obtain ⟨⟨⟨q,u2,l⟩,hb⟩,o⟩:=y
     dsimp only at hb o ⊢
     obtain ⟨z,hz2⟩:=hb.at_
     have hget:=ZbR hsr.nd (List.mem_of_getElem? hz2)
     have hqf:=hsr.few
     have hq7:=(List.getElem?_eq_some_iff.1 hz2).1
     have hll:l.length≤10:=by
       have h9:=hb.nd.length_le_of_subset (l₂:=List.range 10) fun v hv=>by
         obtain ⟨x,hx,rfl⟩:=List.mem_map.1 hv
         obtain ⟨g,y,h1,_⟩:=hb.way.mem x hx
         have:=(List.getElem?_eq_some_iff.1 h1).1
         have:=hok.gl
         exact List.mem_range.2 (by omega)
       simpa using h9
     refine Z0 (sqt 8 rfl (pur 3 rfl ?_))
     refine Zw 77 rfl ?_ ?_<;>intro g77
     refine Z0U rfl rfl rfl rfl rfl (lh Z7A rfl rfl) rfl (pur 1 rfl ?_)
     refine ZkE rfl rfl rfl rfl rfl rfl ((Z1A Z23 hget)) rfl ?_
     refine pur 2 rfl ?_
     refine Z1 rfl ?_ ?_<;>intro hc4<;>try simp only [cS] at hc4
     obtain ⟨gi,p2,y2,g2,rfl,hpq,hgi,hend,hb2⟩:=hb.more hsr hab hz2 hc4
     have hgo2:=hok.gaps g2 (List.mem_of_getElem? hgi)
     have hgil:=(List.getElem?_eq_some_iff.1 hgi).1
     have hg10:=hok.gl
     refine Zi (a:=d.ag) (sz:=2) (rows:=grows d.h.gaps) (by intro h0;have:=congrArg List.length h0;rw [Z4k] at this;simp only [List.length_nil] at this;have:=(List.getElem?_eq_some_iff.1 hgi).1;omega) (fun bg og he=>?_)
     haveI:MemRows (some ⟨bg,og,none⟩) 2 (grows d.h.gaps) R:=⟨he▸hG.mem⟩
     refine Z2 (Z3 (sqt 4 rfl (spL rfl rfl (lh Z7A rfl rfl) rfl (pur 1 rfl ?_))))
     refine spK rfl rfl rfl ((Z1A Z23 hget)) rfl ?_
     refine pur 1 rfl (sqt 5 rfl (pur 2 rfl ?_))
     refine bsl (out:=[_]) rfl Z0F zl3 rfl rfl rfl rfl rfl rfl (fun b88=>?_)
     refine apO (o) rfl Z37 rfl rfl (ZU (row:=[.int .i64 (gi:Int)]) rfl) rfl rfl ((by rw [irl];unfold Zde;rw [List.length_reverse,List.length_map];simp only [List.length_singleton];omega)) rfl (fun o89=>?_)
     refine pur 1 rfl ?_
     refine Zd [0,1,3,7,15,0,63,127,255,0,512,1536,3584,7680,0,32256,65024,130560,262143,0,1048575,2097151] (.ld 0 (tks 1 3 (.ld 4 (tks 5 3 (.ld 8 (.ld 9 (tks 10 3 (.ld 13 (tks 14 3 (.ld 17 (tks 18 4 .done))))))))))) Zt (by kernel_rfl) ?_
     refine ld rfl rfl (lh Z4x rfl rfl) rfl (tk rfl (PE.nilCheck rfl) rfl (tk rfl (PE.fA Z1h rfl) rfl (tk rfl (PE.fA Z10 rfl) rfl (ld rfl rfl (lfB (sz:=4) (x:=.slice (some ⟨bg,og,none⟩) d.h.gaps.length d.cg) Z7B (by show some (d.h.sg d.ag d.cg)=_;unfold Hse.sg;rw [he])) rfl (Zm 1 rfl (tk rfl (PE.indexAddr ZcN rfl rfl (by omega) (by omega)) rfl (tk rfl (PE.fA Z19 rfl) rfl (ld rfl rfl (lf0 sc3 (Z2O hgi) rfl) rfl (ld rfl rfl (lh Z4x rfl rfl) rfl (tk rfl (PE.nilCheck rfl) rfl (tk rfl (PE.fA Z1h rfl) rfl (tk rfl (PE.fA Z10 rfl) rfl (ld rfl rfl (lfB (sz:=4) (x:=.slice (some ⟨bg,og,none⟩) d.h.gaps.length d.cg) Z7B (by show some (d.h.sg d.ag d.cg)=_;unfold Hse.sg;rw [he])) rfl (Zm 1 rfl (tk rfl (PE.indexAddr ZcN rfl rfl (by omega) (by omega)) rfl ?_)))))))))))))))
     refine tk rfl (PE.fA Z1a rfl) rfl (ld rfl rfl (lf (j:=1) sc3 (Z2O hgi) rfl) rfl (tk rfl (PE.add rfl rfl (by omega)) rfl (Zm 1 rfl (tk rfl (PE.sub rfl rfl (by omega)) rfl ?_))))
     rw [show g2.a+g2.b-(u2:Int)=((y2:Nat):Int) from by omega]
     refine Zm 1 rfl ?_
     exact Z2i ⟨⟨(p2,y2,(gi,u2)::l),hb2⟩,o89.cast (by rw [Zbu];simp [Z6])⟩ hpq sbA rfl (fun w h=>h.del b88)
     have hz1:z = -1:=Classical.byContradiction fun e=>hc4 e
     subst hz1
     have hwk:=hb.stop hsr hz2 hkw
     have hl0:l≠[]:=fun e=>by
       subst e
       have h9:=hwk.way
       cases h9
       have:=hns _ hwk.from_
       rw [hkw] at this;cases this
     refine Z9 (Za (Za (Zh (sqt 2 rfl (pur 1 rfl ?_)))))
     refine cl rfl ZdY rfl rfl (Z9L (Zde l) o (by unfold Zde;rw [List.length_reverse,List.length_map];omega) _ _) ?_
     rintro _ _ R1 ⟨o2,hof,rfl,rfl,hR1⟩
     obtain rfl:=hR1.symm
     clear hR1
     rw [← hof]
     obtain ⟨o3,e3,g3⟩:∃ o3:OSl 3 1 (Z6 (l.map fun x=>(x.1:Int))),o3.fs=o2.fs∧o3.G=o2.G:=⟨o2.cast (by rw [Zdf]),rfl,rfl⟩
     rw [← e3,← g3]
     refine Z0 ?_
     refine Zd [0,0,1,7] (.tk 0 (.ld 1 (.tk 2 (.tk 3 .done)))) Zt (by kernel_rfl) ?_
     refine Zm 1 rfl (ld rfl rfl (lh Z7A rfl rfl) rfl (Zm 2 rfl (Z5 ?_)))
     exact Z0V (bd0::mk) (H:=o3.G++((m,Z0q false (vkv (V2)))::H)) (fun w h=>((((h.del b14).del b10).del b5).del b4).perm (pW9 o3.G (mkh (bd0::mk)) H _)) rfl (.cons (RV.tmp rfl) (.cons (RV.tmp rfl) .nil)) rfl ⟨V2,m,l,o3,rfl,rfl,rfl,hsr,.inr ⟨hl0,u2,w',hwk,hwm,hun⟩⟩ idH
     simp only [decide_eq_false_iff_not] at g77
     omega
    obtain rfl:j=V.length:=by omega
    have hshn:Shn d.h.gaps (fun i=>!d.cl.testBit i) (na fl) (msk fr) (msk to_) V:=⟨hwi.s,hwi.no,fun u v i hu hs=>by
      obtain ⟨x,hx,rfl⟩:=List.mem_map.1 hu
      obtain ⟨q,hq⟩:=List.getElem?_of_mem hx
      exact hcl q x (List.getElem?_eq_some_iff.1 hq).1 hq i v hs⟩
    refine Z9 (Za (Za (Zh (sqt 1 rfl (pur 1 rfl (Z0 (sqt 2 rfl (spL rfl rfl (lh sc3 rfl rfl) rfl (pur 1 rfl (Z3 ?_))))))))))
    refine Z1G (ι:=Unit) (fun _=>⟨[(4,.pointer (some ⟨b4,0,none⟩)),(10,.pointer (some ⟨b10,0,none⟩)),(20,.slice none 0 0),(21,.int .i64 (-1))],mks mk,(b14,cel 3 [.int .i64 (-1)])::(b13,cel 23 [.slice a (V.length-V.length) c])::(G++((b10,cel 268 [.map (some m)])::(m,Z0q false (vkv (V)))::(b7,cel 23 [.slice at_ to_.length ct])::(b5,cel 267 (Zp fl))::(b4,cel 173 [.pointer (some ⟨d.bd,0,none⟩)])::(mkh mk++H))),R⟩) (fun _=>0) () ?_ (fun x=>?_)
    exact Z4F sbA rfl idH
    refine Z0 (sqt 8 rfl (pur 3 rfl ?_))
    refine Zw 77 rfl ?_ ?_<;>intro g77
    exact absurd g77 (by decide)
    refine pur 5 rfl ?_
    refine ZG rfl ?_
    refine Z9 (Za (Za (Zh (sqt 2 rfl (pur 1 rfl ?_)))))
    refine clV rfl ZdY rfl rfl (ZdF _ _) ?_
    refine Z0 ?_
    refine Zd [0,0,1,7] (.tk 0 (.ld 1 (.tk 2 (.tk 3 .done)))) Zt (by kernel_rfl) ?_
    refine Zm 1 rfl (ld rfl rfl (lh Z7A rfl rfl) rfl (Zm 2 rfl (Z5 ?_)))
    exact Z0V mk (H:=(m,Z0q false (vkv (V)))::H) (R:=R) (fun w h=>((((((St.drop (G:=G) ((h.del b14).del b13)).del b10).del b7).del b5).del b4).perm (List.perm_middle (l₁:=mkh mk)).symm)) rfl (.cons (RV.tmp rfl) (.cons (RV.tmp rfl) .nil)) rfl ⟨V,m,[],OSl.nil _ _,rfl,rfl,rfl,hwi.s,.inl ⟨rfl,hshn⟩⟩ idH
theorem Zjg (d:Dk) (hd:d.Ok) (fl:List Int) (hfl:fl.length=10) (fr to_:List Int) (af at_:Option Addr) (cf ct:Nat) (hfr:∀ x∈fr,0≤x∧x<7) (hto:∀ x∈to_,0≤x∧x<7) (hnf:fr.Nodup) (hnt:to_.length≤1000000) (hdis:∀ x∈fr,x∉to_) (H:Z8) (R:Z4) [hD:MemRows (some ⟨d.bd,0,none⟩) 4 [d.row] R] [hG:MemRows d.ag 2 (grows d.h.gaps) R] [hS:MemRows d.as_ 3 (srows d.h.sights) R] [sR:SubF d.R0 R] [hF:MemRows af 1 (Z6 fr) R] [hT:MemRows at_ 1 (Z6 to_) R]:Fn Tryz.prog 225 [.pointer (some ⟨d.bd,0,none⟩),.agg (Zp fl).toArray,.slice af fr.length cf,.slice at_ to_.length ct] H R (Zkq d.h.gaps (fun i=>!d.cl.testBit i) (na fl) (msk fr) (msk to_) H R):=fun w hw=>by
 refine CallsIn.mono (Zgx d hd fl hfl fr to_ af at_ cf ct hfr hto hnf hnt hdis H R w hw) ?_
 rintro e' w' ⟨v,H',R',⟨V,m,l,o,rfl,rfl,rfl,h1,h2⟩,he,hs'⟩
 obtain ⟨a,c,heo,hfz⟩:=o.freeze
 rw [irl,List.length_map] at heo
 exact ⟨_,_,_,⟨V,m,a,c,l,by rw [heo],rfl,rfl,h1,h2⟩,he,hfz hs'⟩
theorem ZgS:cal Tryz.prog 150=true:=by kernel_rfl
theorem Zhh:cal Tryz.prog 225=true:=by kernel_rfl
theorem ZhK:ZJ Tryz.prog 267=some 10:=by kernel_rfl
theorem ZfZ:ZD Tryz.prog 267=some ([.int .i64 0,.int .i64 0,.int .i64 0,.int .i64 0,.int .i64 0,.int .i64 0,.int .i64 0,.int .i64 0,.int .i64 0,.int .i64 0]):=by kernel_rfl
theorem Way.at_ {gs:List Gp} {op:Nat→Bool} {f:Nat→Int} {S K:Nat}:∀ {l:List (Nat×Nat)} {u w:Nat},Way gs op f S K u l w→∀ {q:Nat} {x:Nat×Nat},l[q]?=some x→∃ (g:Gp) (y:Nat),gs[x.1]?=some g∧((g.a.toNat=y∧g.b.toNat=x.2)∨(g.b.toNat=y∧g.a.toNat=x.2))∧(q=0→y=u)∧∀ q',q=q'+1→∃ z,l[q']?=some z∧z.2=y
 | [],_,_,_,q,x,hx=>by simp at hx
 | (i,v)::l,u,w,.cons (g:=g) hg _ _ _ hs h,0,x,hx=>by
   rw [List.getElem?_cons_zero,Option.some.injEq] at hx
   subst hx
   exact ⟨g,u,hg,hs.imp (fun h=>⟨h.1,h.2.1⟩) (fun h=>⟨h.1,h.2.1⟩),fun _=>rfl,fun q' e=>by omega⟩
 | (i,v)::l,u,w,.cons hg _ _ _ hs h,q+1,x,hx=>by
   rw [List.getElem?_cons_succ] at hx
   obtain ⟨g,y,h1,h2,h3,h4⟩:=Way.at_ h hx
   refine ⟨g,y,h1,h2,fun e=>by omega,fun q' e=>?_⟩
   obtain rfl:q=q':=by omega
   cases q with
   | zero=>exact ⟨(i,v),rfl,(h3 rfl).symm⟩
   | succ q=>obtain ⟨z,h5,h6⟩:=h4 q rfl;exact ⟨z,by rw [List.getElem?_cons_succ];exact h5,h6⟩
theorem Way.last {gs:List Gp} {op:Nat→Bool} {f:Nat→Int} {S K:Nat}:∀ {l:List (Nat×Nat)} {u w:Nat},Way gs op f S K u l w→l≠[]→∃ i,l[l.length-1]?=some (i,w)
 | [],_,_,_,h=>absurd rfl h
 | (i,v)::l,u,w,.cons _ _ _ _ _ h,_=>by
   cases l with
   | nil=>cases h;exact ⟨i,rfl⟩
   | cons x l=>obtain ⟨j,hj⟩:=Way.last h (by simp);exact ⟨j,by simpa using hj⟩
theorem Zep (gs:List Gp) (f:Nat→Int) (l:List (Nat×Nat)) (i:Nat):f i-1≤Z3M gs f l i∧Z3M gs f l i≤f i+1:=by
 unfold Z3M
 cases l.find? fun x=>decide (x.1=i) with
 | none=>dsimp only;omega
 | some x =>
   dsimp only
   unfold Z9x
   cases gs[x.1]? with
   | none=>dsimp only;omega
   | some g=>dsimp only;cases decide (g.b.toNat=x.2)<;>simp only [cond_true,cond_false]<;>omega
theorem Z8d {f:Nat→Int} {S K:Nat} {gs:List Gp} (h:Flw f S K gs) (X:Nat):Z1I f X gs≤gs.length:=by
 have h1:=ZaN (X:=X) (gs:=gs) h.one
 rw [Z5r] at h1
 have h2:(Z2n X gs).length≤gs.length:=by
   unfold Z2n
   rw [List.length_map]
   exact Nat.le_trans (List.length_filter_le _ _) (by simp)
 omega
theorem Zfw (n:Nat):na (List.replicate n 0)=fun _=>0:=by
 funext i
 unfold na
 rw [List.getD_eq_getElem?_getD,List.getElem?_replicate]
 split<;>rfl
def atK (l:List Int) (w:Int):Int:=bif Z5A l w then w else -1
theorem Zgb {l:List Int} {w:Int}:atK (l++[w]) w=w:=by unfold atK;rw [hasI_iff.2 (by simp)];rfl
theorem Zez {l:List Int} {w x:Int} (h:x≠w):atK (l++[x]) w=atK l w:=by
 unfold atK
 have:Z5A (l++[x]) w=Z5A l w:=by
   rw [Bool.eq_iff_iff,hasI_iff,hasI_iff,List.mem_append,List.mem_singleton]
   exact ⟨fun h1=>h1.resolve_right fun e=>h e.symm,.inl⟩
 rw [this]
def ZiZ (gs:List Gp) (op:Nat→Bool) (S K:Nat) (H:Z8) (R:Z4):Value→Z8→Z4→Prop:=fun v H' R'=>∃ (fl:List Int) (V:List (Nat×Int)) (m:Nat),v = .tuple #[.agg (Zp fl).toArray,.map (some m)]∧H'=(m,Z0q false (vkv V))::H∧R'=R∧fl.length=10∧Flw (na fl) S K gs∧Shn gs op (na fl) S K V
def ZcK (gs:List Gp) (cl X k:Nat):Bool:=(match gs[k]? with | some g=>crs X g | none=>false)&&!cl.testBit k
def Zf6 (gs:List Gp) (cl X:Nat):List Int:=Z6X (ZcK gs cl X) gs.length
theorem Z6l (gs:List Gp) (X:Nat):Zf6 gs 0 X=Z2n X gs:=by
 unfold Zf6 Z6X Z2n ZcK
 congr 2
 funext k
 simp
 cases gs[k]?<;>rfl
theorem Zbj {gs:List Gp} {op:Nat→Bool} {f:Nat→Int} {S K:Nat} {V:List (Nat×Int)} (h:Srch gs op f S K V) (v:Nat):((vkv V).get [(v:Int)]).isSome=(Z2o V).testBit v:=by
 rw [Bool.eq_iff_iff,Z0K]
 exact ⟨Z7H,fun hm=>by
   cases hb:((vkv V).get [(v:Int)]).isSome with
   | true=>rfl
   | false=>exact absurd hm (Z7I h.nd hb)⟩
set_option maxHeartbeats 1000000 in
theorem Zgr (d:Dk) (hd:d.Ok) (fr to_:List Int) (af at_:Option Addr) (cf ct:Nat) (hfr:∀ x∈fr,0≤x∧x<7) (hto:∀ x∈to_,0≤x∧x<7) (hnf:fr.Nodup) (hnt:to_.length≤1000000) (hdis:∀ x∈fr,x∉to_) (H:Z8) (R:Z4) [hD:MemRows (some ⟨d.bd,0,none⟩) 4 [d.row] R] [hG:MemRows d.ag 2 (grows d.h.gaps) R] [hS:MemRows d.as_ 3 (srows d.h.sights) R] [sR:SubF d.R0 R] [hF:MemRows af 1 (Z6 fr) R] [hT:MemRows at_ 1 (Z6 to_) R] :
    Fn Tryz.prog 150 [.pointer (some ⟨d.bd,0,none⟩),.slice af fr.length cf,.slice at_ to_.length ct] H R (ZiZ d.h.gaps (fun i=>!d.cl.testBit i) (msk fr) (msk to_) H R):=by
 refine Zc Tryz.func150 rfl Tryz.ntmps150 rfl ?_
 refine sqt 2 rfl (alc rfl ZfZ rfl (fun b6=>pur 1 rfl (sqt 1 rfl (alc rfl ZfZ rfl (fun b8=>Z3 ?_)))))
 have hok:=hd.ok
 have hab:∀ (i:Nat) (g:Gp),d.h.gaps[i]?=some g→g.a.toNat≠g.b.toNat:=fun i g hg=>by have:=hok.gaps g (List.mem_of_getElem? hg);omega
 have hns:∀ v:Nat,(msk fr).testBit v=true→(msk to_).testBit v=false:=fun v hv=>by
   cases hk:(msk to_).testBit v with
   | false=>rfl
   | true=>exact absurd ((ZN (fun k hk=>(hto k hk).1) v).1 hk) (hdis _ ((ZN (fun k hk=>(hfr k hk).1) v).1 hv))
 have hgl:=hok.gl
 have hbn:=hok.bins
 have hf0:Flw (na (List.replicate 10 0)) (msk fr) (msk to_) d.h.gaps∧Z1I (na (List.replicate 10 0)) (msk fr) d.h.gaps=0:=by rw [Zfw];exact Flw.zero _ _ _
 refine Zb (ι:={fl:List Int // fl.length=10∧Flw (na fl) (msk fr) (msk to_) d.h.gaps∧0≤Z1I (na fl) (msk fr) d.h.gaps}) (fun fl=>⟨[(0,.pointer (some ⟨d.bd,0,none⟩)),(1,.slice af fr.length cf),(2,.slice at_ to_.length ct),(6,.pointer (some ⟨b6,0,none⟩)),(8,.pointer (some ⟨b8,0,none⟩))],(b8,cel 267 (Zp fl.1))::(b6,cel 267 (Zp (List.replicate 10 0)))::H,R⟩) (fun fl=>11-(Z1I (na fl.1) (msk fr) d.h.gaps).toNat) ⟨(List.replicate 10 0),by simp,hf0.1,by rw [hf0.2];omega⟩ ?_ (fun fl=>?_)
 exact Ze idH
 obtain ⟨fl,hfl,hfw,hfx⟩:=fl
 dsimp only at hfl hfw hfx ⊢
 have hft:=Z8d hfw (msk fr)
 refine Z3 (sqt 10 rfl (pur 1 rfl (spL rfl rfl (lhI fl Zcc rfl rfl (hfl)) rfl (pur 2 rfl ?_))))
 refine cl rfl Zhh rfl rfl (Zjg d hd fl hfl fr to_ af at_ cf ct hfr hto hnf hnt hdis _ _) ?_
 rintro _ _ _ ⟨V,m,a,c,l,rfl,rfl,rfl,hsr,hlw⟩
 refine pur 5 rfl (Z0 (sqt 3 rfl (pur 1 rfl (sp rfl (PE.lenSl ZT rfl) rfl (pur 1 rfl ?_)))))
 refine Z1 rfl ?_ ?_<;>intro hc0<;>try simp only [cS] at hc0
 obtain ⟨rfl,hshn⟩:=hlw.resolve_right (fun h=>h.1 (List.length_eq_zero_iff.1 (by omega)))
 refine sqt 4 rfl (spL rfl rfl (lhI fl Zcc rfl rfl (hfl)) rfl (pur 1 rfl ?_))
 refine Zg4 rfl rfl rfl ZhK rfl (by rw [Zj];exact hfl) rfl (Z29 _) ?_
 refine pur 1 rfl (Z5 ?_)
 exact Zr (vs:=[_,_]) rfl (.cons (RV.cell rfl (lhI fl Zcc rfl rfl (hfl))) (.cons (RV.tmp rfl) .nil)) rfl ⟨fl,V,m,rfl,rfl,rfl,hfl,hfw,hshn⟩ (fun w h=>((h.del b8).del b6).ftail)
 obtain ⟨hl0,u,w,hwk,hwm,hun⟩:=hlw.resolve_left (fun h=>by rw [h.1] at hc0;exact hc0 rfl)
 have hwto:(w:Int)∈to_:=(ZN (fun k hk=>(hto k hk).1) w).1 hwk.to
 have hll:l.length≤10:=by
   have h9:=hwk.nd.length_le_of_subset (l₂:=List.range 10) fun v hv=>by
     obtain ⟨x,hx,rfl⟩:=List.mem_map.1 hv
     obtain ⟨g,y,h1,_⟩:=hwk.way.mem x hx
     have:=(List.getElem?_eq_some_iff.1 h1).1
     exact List.mem_range.2 (by omega)
   simpa using h9
 refine Z2 (sqt 1 rfl (pur 1 rfl (Z0 (sqt 3 rfl (pur 1 rfl (sp rfl (PE.lenSl ZT rfl) rfl (pur 1 rfl (Z3 ?_))))))))
 refine Zb (ι:={k:Nat // k≤to_.length}) (fun k=>⟨[(0,.pointer (some ⟨d.bd,0,none⟩)),(1,.slice af fr.length cf),(2,.slice at_ to_.length ct),(6,.pointer (some ⟨b6,0,none⟩)),(8,.pointer (some ⟨b8,0,none⟩)),(9,.slice a l.length c),(10,.map (some m)),(11,.int .i64 (atK (to_.take k.1) w)),(31,.slice at_ to_.length ct),(32,.int .i64 to_.length),(33,.int .i64 k.1)],(m,Z0q false (vkv V))::(b8,cel 267 (Zp fl))::(b6,cel 267 (Zp (List.replicate 10 0)))::H,RowsA a 1 (Z6 (l.map fun x:Nat×Nat=>(x.1:Int)))::R⟩) (fun k=>to_.length-k.1) ⟨0,Nat.zero_le _⟩ ?_ (fun k=>?_)
 exact Ze idH
 obtain ⟨k,hk⟩:=k
 dsimp only at hk ⊢
 refine sqt 1 rfl (pur 1 rfl (Z0 ?_))
 refine Z1 rfl ?_ ?_<;>intro hc1<;>try simp only [cS] at hc1
 obtain ⟨x,hx⟩:∃ x,to_[k]?=some x:=⟨_,List.getElem?_eq_getElem (by omega)⟩
 have hx7:=hto x (List.mem_of_getElem? hx)
 obtain ⟨xn,rfl⟩:∃ n:Nat,x=n:=⟨x.toNat,by omega⟩
 have htk:to_.take (k+1)=to_.take k++[(xn:Int)]:=by rw [List.take_add_one,hx];rfl
 have hxk:(msk to_).testBit xn=true:=(ZN (fun k hk=>(hto k hk).1) xn).2 (List.mem_of_getElem? hx)
 obtain ⟨go,hgo⟩:∃ go,(vkv V).get [(xn:Int)]=go:=⟨_,rfl⟩
 refine Zi (a:=at_) (sz:=1) (rows:=Z6 to_) (ne0 (by rw [irl];omega)) (fun ba oa he=>?_)
 subst he
 refine Z2 (Z0 (Z3 (sqt 3 rfl (sp rfl (PE.indexAddr Z0G rfl rfl (by omega) (by omega)) rfl (spL rfl rfl (lf0 sc3 (ZQ hx) rfl) rfl (pur 1 rfl (sqt 8 rfl (pur 2 rfl ?_))))))))
 refine spK rfl rfl rfl (Z1W (b:=false) (vkv V) [(xn:Int)] Z4n (KeyT.of Z4c Z4Q) (Z0M zv3) rfl Z23 true) rfl ?_
 rw [hgo]
 refine pur 5 rfl (sqt 1 rfl (pur 1 rfl ?_))
 refine Z1 rfl ?_ ?_<;>intro hc2
 have hxm:=Z7H (hgo▸hc2)
 obtain ⟨y,hy,hye⟩:=List.mem_map.1 hxm
 have hxw:xn=w:=hye▸hun y hy (hye▸hxk)
 subst hxw
 refine sqr 2 rfl (pur 2 rfl (sqr 2 rfl (sp rfl (PE.add rfl rfl (by omega)) rfl (pur 1 rfl ?_))))
 exact ZC ⟨k+1,by omega⟩ (by dsimp only;omega) (by rw [htk,Zgb];repeat' first | exact Sub.nil | apply Sub.cons | rfl | (simp [lk];omega)) idH
 have hxm:=Z7I hsr.nd (hgo▸hc2)
 have hxw:(xn:Int)≠w:=fun e=>hxm (by rw [show xn=w by omega];exact hwm)
 refine Z2 (sqr 2 rfl (sp rfl (PE.add rfl rfl (by omega)) rfl (pur 1 rfl ?_)))
 exact ZC ⟨k+1,by omega⟩ (by dsimp only;omega) (by rw [htk,Zez hxw];repeat' first | exact Sub.nil | apply Sub.cons | rfl | (simp [lk];omega)) idH
 obtain rfl:k=to_.length:=by omega
 rw [List.take_length,show atK to_ w=w by unfold atK;rw [hasI_iff.2 hwto];rfl]
 refine Z9 (Za (Za (Zh (sqt 4 rfl (pur 1 rfl (sp rfl (PE.lenSl ZT rfl) rfl (sp rfl (PE.sub rfl rfl (by omega)) rfl (pur 1 rfl (Z3 ?_)))))))))
 refine Zb (ι:={y:Nat×List Int×Nat // y.1≤l.length∧y.2.1.length=10∧(∀ j,na y.2.1 j=Z3M d.h.gaps (na fl) (l.drop y.1) j)∧(0<y.1→∃ gi,l[y.1-1]?=some (gi,y.2.2))}) (fun y=>⟨[(0,.pointer (some ⟨d.bd,0,none⟩)),(1,.slice af fr.length cf),(2,.slice at_ to_.length ct),(6,.pointer (some ⟨b6,0,none⟩)),(8,.pointer (some ⟨b8,0,none⟩)),(9,.slice a l.length c),(11,.int .i64 (y.1.2.2:Int)),(16,.int .i64 ((y.1.1:Int)-1))],(b8,cel 267 (Zp y.1.2.1))::(b6,cel 267 (Zp (List.replicate 10 0)))::H,RowsA a 1 (Z6 (l.map fun x:Nat×Nat=>(x.1:Int)))::R⟩) (fun y=>y.1.1) ⟨(l.length,fl,w),Nat.le_refl _,hfl,fun j=>by rw [List.drop_length];simp [Z3M],fun _=>hwk.way.last hl0⟩ ?_ (fun y=>?_)
 exact Ze (fun w h=>h.del m)
 obtain ⟨⟨k1,f2,at2⟩,hk1,h2l,h2a,h2t⟩:=y
 dsimp only at hk1 h2l h2a h2t ⊢
 refine Z0 (sqt 2 rfl (pur 2 rfl ?_))
 refine Z1 rfl ?_ ?_<;>intro hc3<;>try simp only [cS] at hc3
 obtain ⟨k,rfl⟩:∃ k,k1=k+1:=⟨k1-1,by omega⟩
 obtain ⟨gi,hgi⟩:=h2t (by omega)
 rw [show k+1-1=k by omega] at hgi
 obtain ⟨g,y,hgg,hend,_,hprev⟩:=hwk.way.at_ hgi
 dsimp only at hgg hend
 have hgo2:=hok.gaps g (List.mem_of_getElem? hgg)
 have hgil:=(List.getElem?_eq_some_iff.1 hgg).1
 have hpk:(l.map fun x:Nat×Nat=>(x.1:Int))[k]?=some (gi:Int):=by rw [List.getElem?_map,hgi];rfl
 have hdr:l.drop k=(gi,at2)::l.drop (k+1):=by rw [List.drop_eq_getElem_cons (List.getElem?_eq_some_iff.1 hgi).1,(List.getElem?_eq_some_iff.1 hgi).2]
 have hnin:∀ x∈l.drop (k+1),x.1≠gi:=fun x hx e=>by
   have hnd:=hwk.nd
   have h8:(l.drop k).map (·.1)=gi::(l.drop (k+1)).map (·.1):=by rw [hdr];rfl
   have h9:((l.drop k).map (·.1)).Nodup:=by rw [List.map_drop];exact hnd.sublist (List.drop_sublist _ _)
   rw [h8,List.nodup_cons] at h9
   exact h9.1 (List.mem_map.2 ⟨x,hx,e⟩)
 have hbd:=Zep d.h.gaps (na fl) (l.drop (k+1)) gi
 have hone:=hfw.one gi
 have hgv:=h2a gi
 rw [show ((k+1:Nat):Int)-1=((k:Nat):Int) from by omega]
 refine Zi (a:=a) (sz:=1) (rows:=Z6 (l.map fun x:Nat×Nat=>(x.1:Int))) (by intro h0;have:=congrArg List.length h0;rw [irl,List.length_map] at this;simp only [List.length_nil] at this;omega) (fun ba oa hea=>?_)
 subst hea
 refine Zi (a:=d.ag) (sz:=2) (rows:=grows d.h.gaps) (by intro h0;have:=congrArg List.length h0;rw [Z4k] at this;simp only [List.length_nil] at this;have:=(List.getElem?_eq_some_iff.1 hgg).1;omega) (fun bq og he=>?_)
 have hG9:=hG.mem
 rw [he] at hG9
 haveI:=MemRows.mk hG9
 refine Z2 (Z0 (Z3 (Z0 ?_)))
 refine Zd [0,1,3,7,15,0,0,96,224,511,1023,0,4095] (tks 0 4 (.ld 4 (tks 5 3 (.ld 8 (.tk 9 (.ld 10 (.big 11 (.big 12 .done)))))))) Zt (by kernel_rfl) ?_
 refine Zm 1 rfl (tk rfl (PE.nilCheck rfl) rfl (tk rfl (PE.fA Z1h rfl) rfl (tk rfl (PE.fA Z10 rfl) rfl (ld rfl rfl (lfB (sz:=4) (x:=.slice (some ⟨bq,og,none⟩) d.h.gaps.length d.cg) Z7B (by show some (d.h.sg d.ag d.cg)=_;unfold Hse.sg;rw [he])) rfl (Zm 2 rfl (tk rfl (PE.indexAddr Z0G rfl rfl (by omega) (by omega)) rfl (ld rfl rfl (lf0 sc3 (ZQ hpk) rfl) rfl (tk rfl (PE.indexAddr ZcN rfl rfl (by omega) (by omega)) rfl (ld rfl rfl (lfA Zcd (row:=grow g) (Z2O hgg) rfl) rfl (alc rfl Z6W rfl (fun b17=>?_)))))))))))
 refine bg (fun w hs=>⟨(lfA Zcd (row:=grow g) (Z2O hgg) rfl) w hs,(lf0 sc3 (ZQ hpk) rfl) w hs,(lfB (sz:=4) (x:=.slice (some ⟨bq,og,none⟩) d.h.gaps.length d.cg) Z7B (by show some (d.h.sg d.ag d.cg)=_;unfold Hse.sg;rw [he])) w hs,trivial⟩) ?_
 refine ZB (l':=grow g) rfl rfl rfl ZhO rfl rfl rfl rfl (nl rfl) ?_
 refine bgT (Z0 (sqt 4 rfl (sp rfl (PE.fA Z1a rfl) rfl (spL rfl rfl (lh sc3 rfl rfl) rfl (pur 2 rfl ?_)))))
 refine Z1 rfl ?_ ?_<;>intro hc4<;>try simp only [cS] at hc4
 have hstp:Z9x d.h.gaps gi at2=1:=by unfold Z9x;rw [hgg];dsimp only;rw [dT (show g.b.toNat=at2 by omega)];rfl
 refine sqr 9 rfl (pur 2 rfl (sp rfl (PE.indexAddr Z0G rfl rfl (by omega) (by omega)) rfl (spL rfl rfl (lf0 sc3 (ZQ hpk) rfl) rfl (sp rfl (PE.indexArr Z91 rfl rfl (by omega) (by omega)) rfl (spL rfl rfl (lh sc3 rfl (Z0u (w:=f2) (k:=gi) (by omega) (by show 0+((gi:Nat):Int).toNat*1=gi;omega))) rfl (sp rfl (PE.add rfl rfl (by omega)) rfl (sp rfl (PE.indexArr Z91 rfl rfl (by omega) (by omega)) rfl ?_)))))))
 refine ZB (l':=Zp (f2.set gi (na f2 gi+1))) rfl rfl rfl cn3 rfl rfl rfl (Z4y (by omega) (by show 0+((gi:Nat):Int).toNat*1=gi;omega)) (by rw [Zj,h2l];show 0+((gi:Nat):Int).toNat*1+1≤10;omega) ?_
 refine sqr 8 rfl (sp rfl (PE.fA Z19 rfl) rfl (spL rfl rfl (lh sc3 rfl rfl) rfl (sp rfl (PE.fA Z1a rfl) rfl (spL rfl rfl (lh sc3 rfl rfl) rfl (sp rfl (PE.add rfl rfl (by omega)) rfl (pur 1 rfl (sp rfl (PE.sub rfl rfl (by omega)) rfl ?_)))))))
 rw [show g.a+g.b-(at2:Int)=((y:Nat):Int) from by omega]
 refine pur 1 rfl (sqr 3 rfl (pur 1 rfl (sp rfl (PE.sub rfl rfl (by omega)) rfl (pur 1 rfl ?_))))
 have hst:∀ j,na (f2.set gi (na f2 gi+1)) j=Z3M d.h.gaps (na fl) (l.drop k) j:=fun j=>by
   rw [hdr,Z40 hnin,Z12 (by omega),h2a j]
   by_cases e:gi=j
   · subst e;rw [decide_eq_true rfl];simp only [cond_true,hstp];omega
   · rw [decide_eq_false e,dF (fun e2=>e e2.symm)];simp
 have h2l2:(f2.set gi (na f2 gi+1)).length=10:=by rw [List.length_set];exact h2l
 exact ZC ⟨(k,f2.set gi (na f2 gi+1),y),by dsimp only;omega,h2l2,hst,fun h0=>by
   obtain ⟨z,h5,h6⟩:=hprev (k-1) (by dsimp only at h0;omega)
   exact ⟨z.1,by dsimp only;rw [h5,← h6]⟩⟩ (by dsimp only;omega) sbA (fun w h=>h.del b17)
 have hstp:Z9x d.h.gaps gi at2 = -1:=by unfold Z9x;rw [hgg];dsimp only;rw [dF (show ¬ g.b.toNat=at2 by omega)];rfl
 refine sqr 9 rfl (pur 2 rfl (sp rfl (PE.indexAddr Z0G rfl rfl (by omega) (by omega)) rfl (spL rfl rfl (lf0 sc3 (ZQ hpk) rfl) rfl (sp rfl (PE.indexArr Z91 rfl rfl (by omega) (by omega)) rfl (spL rfl rfl (lh sc3 rfl (Z0u (w:=f2) (k:=gi) (by omega) (by show 0+((gi:Nat):Int).toNat*1=gi;omega))) rfl (sp rfl (PE.sub rfl rfl (by omega)) rfl (sp rfl (PE.indexArr Z91 rfl rfl (by omega) (by omega)) rfl ?_)))))))
 refine ZB (l':=Zp (f2.set gi (na f2 gi-1))) rfl rfl rfl cn3 rfl rfl rfl (Z4y (by omega) (by show 0+((gi:Nat):Int).toNat*1=gi;omega)) (by rw [Zj,h2l];show 0+((gi:Nat):Int).toNat*1+1≤10;omega) ?_
 refine sqr 8 rfl (sp rfl (PE.fA Z19 rfl) rfl (spL rfl rfl (lh sc3 rfl rfl) rfl (sp rfl (PE.fA Z1a rfl) rfl (spL rfl rfl (lh sc3 rfl rfl) rfl (sp rfl (PE.add rfl rfl (by omega)) rfl (pur 1 rfl (sp rfl (PE.sub rfl rfl (by omega)) rfl ?_)))))))
 rw [show g.a+g.b-(at2:Int)=((y:Nat):Int) from by omega]
 refine pur 1 rfl (sqr 3 rfl (pur 1 rfl (sp rfl (PE.sub rfl rfl (by omega)) rfl (pur 1 rfl ?_))))
 have hst:∀ j,na (f2.set gi (na f2 gi-1)) j=Z3M d.h.gaps (na fl) (l.drop k) j:=fun j=>by
   rw [hdr,Z40 hnin,Z12 (by omega),h2a j]
   by_cases e:gi=j
   · subst e;rw [decide_eq_true rfl];simp only [cond_true,hstp];omega
   · rw [decide_eq_false e,dF (fun e2=>e e2.symm)];simp
 have h2l2:(f2.set gi (na f2 gi-1)).length=10:=by rw [List.length_set];exact h2l
 exact ZC ⟨(k,f2.set gi (na f2 gi-1),y),by dsimp only;omega,h2l2,hst,fun h0=>by
   obtain ⟨z,h5,h6⟩:=hprev (k-1) (by dsimp only at h0;omega)
   exact ⟨z.1,by dsimp only;rw [h5,← h6]⟩⟩ (by dsimp only;omega) sbA (fun w h=>h.del b17)
 obtain rfl:k1=0:=by omega
 have hfe:na f2=Z3M d.h.gaps (na fl) l:=by funext j;rw [h2a j,List.drop_zero]
 have hfm:=hfw.more hns hab hwk
 rw [← hfe] at hfm
 have hft2:=Z8d hfm.1 (msk fr)
 refine Z9 (Za (Za (Zh ?_)))
 exact ZF ⟨f2,h2l,hfm.1,by rw [hfm.2];omega⟩ (by dsimp only;rw [hfm.2];omega) (fun w h=>h.ftail)
set_option maxHeartbeats 1000000 in
theorem Zgm (d:Dk) (hd:d.Ok) (fr to_:List Int) (af at_:Option Addr) (cf ct:Nat) (hfr:∀ x∈fr,0≤x∧x<7) (hto:∀ x∈to_,0≤x∧x<7) (hnf:fr.Nodup) (hnt:to_.length≤1000000) (hdis:∀ x∈fr,x∉to_) (H:Z8) (R:Z4) [hD:MemRows (some ⟨d.bd,0,none⟩) 4 [d.row] R] [hG:MemRows d.ag 2 (grows d.h.gaps) R] [hS:MemRows d.as_ 3 (srows d.h.sights) R] [sR:SubF d.R0 R] [hF:MemRows af 1 (Z6 fr) R] [hT:MemRows at_ 1 (Z6 to_) R] :
    Fn Tryz.prog 79 [.pointer (some ⟨d.bd,0,none⟩),.slice af fr.length cf,.slice at_ to_.length ct] H R (fun v H' R'=>∃ (fl:List Int) (V:List (Nat×Int)) (a:Option Addr) (c:Nat),fl.length=10∧Flw (na fl) (msk fr) (msk to_) d.h.gaps∧Shn d.h.gaps (fun i=>!d.cl.testBit i) (na fl) (msk fr) (msk to_) V∧v = .slice a (Zf6 d.h.gaps d.cl (Z2o V)).length c∧(Zf6 d.h.gaps d.cl (Z2o V)).length≤c∧H'=H∧R'=RowsA a 1 (Z6 (Zf6 d.h.gaps d.cl (Z2o V)))::R):=by
 refine Zc Tryz.func79 rfl Tryz.ntmps79 rfl ?_
 refine sqt 1 rfl (pur 1 rfl (sqt 10 rfl (pur 3 rfl ?_)))
 refine cl rfl ZgS rfl rfl (Zgr d hd fr to_ af at_ cf ct hfr hto hnf hnt hdis _ _) ?_
 rintro _ _ R1 ⟨fl,V,m,rfl,rfl,hR1,hfl,hfw,hsh⟩
 obtain rfl:=hR1.symm
 clear hR1
 refine pur 3 rfl (alc rfl ZfZ rfl (fun b7=>?_))
 refine Zg4 rfl rfl rfl ZhK rfl (by rw [Zj];exact hfl) rfl (Z29 _) ?_
 refine pur 1 rfl (sqt 1 rfl (pur 1 rfl (Z0 (sqt 7 rfl (pur 1 rfl (sp rfl (PE.nilCheck rfl) rfl (sp rfl (PE.fA Z1h rfl) rfl (sp rfl (PE.fA Z10 rfl) rfl (spL rfl rfl (lfB (sz:=4) Z7B rfl) rfl (sp rfl (PE.lenSl Z7n rfl) rfl (pur 1 rfl (Z3 ?_))))))))))))
 have hok:=hd.ok
 have hgl:=hok.gl
 refine Zb (ι:=(k:{k:Nat // k≤d.h.gaps.length})×OSl 3 1 (Z6 (Z6X (ZcK d.h.gaps d.cl (Z2o V)) k.1))) (fun y=>⟨[(0,.pointer (some ⟨d.bd,0,none⟩)),(8,.map (some m)),(9,y.2.fs),(27,d.h.sg d.ag d.cg),(28,.int .i64 d.h.gaps.length),(29,.int .i64 y.1.1)],y.2.G++((m,Z0q false (vkv V))::H),R⟩) (fun y=>d.h.gaps.length-y.1.1) ⟨⟨0,Nat.zero_le _⟩,OSl.nil _ _⟩ ?_ (fun y=>?_)
 exact Ze (fun w h=>h.del b7)
 obtain ⟨⟨k,hk⟩,o⟩:=y
 dsimp only at hk o ⊢
 have hcn:=Z8a (ZcK d.h.gaps d.cl (Z2o V)) k
 refine sqt 1 rfl (pur 1 rfl (Z0 ?_))
 refine Z1 rfl ?_ ?_<;>intro hc0<;>try simp only [cS] at hc0
 obtain ⟨g,hgg⟩:∃ g,d.h.gaps[k]?=some g:=⟨_,List.getElem?_eq_getElem (by omega)⟩
 have hgo2:=hok.gaps g (List.mem_of_getElem? hgg)
 obtain ⟨xa,hxa⟩:∃ n:Nat,g.a=n:=⟨g.a.toNat,by omega⟩
 obtain ⟨xb,hxb⟩:∃ n:Nat,g.b=n:=⟨g.b.toNat,by omega⟩
 obtain ⟨goa,hga⟩:∃ go,(vkv V).get [(xa:Int)]=go:=⟨_,rfl⟩
 obtain ⟨gob,hgb⟩:∃ go,(vkv V).get [(xb:Int)]=go:=⟨_,rfl⟩
 have hma:=Zbj hsh.s xa
 have hmb:=Zbj hsh.s xb
 rw [hga] at hma
 rw [hgb] at hmb
 have hcrs:crs (Z2o V) g=(goa.isSome != gob.isSome):=by unfold crs;rw [show g.a.toNat=xa by omega,show g.b.toNat=xb by omega,hma,hmb]
 have hcB:ZcK d.h.gaps d.cl (Z2o V) k=((goa.isSome != gob.isSome)&&!d.cl.testBit k):=by unfold ZcK;rw [hgg];dsimp only;rw [hcrs]
 refine Zi (a:=d.ag) (sz:=2) (rows:=grows d.h.gaps) (by intro h0;have:=congrArg List.length h0;rw [Z4k] at this;simp only [List.length_nil] at this;have:=(List.getElem?_eq_some_iff.1 hgg).1;omega) (fun bq og he=>?_)
 have hG9:=hG.mem
 rw [he] at hG9
 haveI:=MemRows.mk hG9
 rw [show d.h.sg d.ag d.cg = .slice (some ⟨bq,og,none⟩) d.h.gaps.length d.cg by unfold Hse.sg;rw [he]]
 refine Z2 (Z0 (Z3 (sqt 6 rfl (pur 1 rfl (sp rfl (PE.indexAddr ZcN rfl rfl (by omega) (by omega)) rfl (spL rfl rfl (lfA Zcd (row:=grow g) (Z2O hgg) rfl) rfl (alc rfl Z6W rfl (fun b11=>pur 1 rfl ?_))))))))
 refine ZB (l':=grow g) rfl rfl rfl ZhO rfl rfl rfl rfl (nl rfl) ?_
 refine sqt 9 rfl (pur 1 rfl (sp rfl (PE.fA Z19 rfl) rfl (spL rfl rfl (lh sc3 rfl rfl) rfl ?_)))
 rw [hxa]
 refine spK rfl rfl rfl (Z1W (b:=false) (vkv V) [(xa:Int)] Z4n (KeyT.of Z4c Z4Q) (Z0M zv3) rfl Z23 true) rfl ?_
 rw [hga]
 refine pur 5 rfl (sqt 9 rfl (pur 1 rfl (sp rfl (PE.fA Z1a rfl) rfl (spL rfl rfl (lh sc3 rfl rfl) rfl ?_))))
 rw [hxb]
 refine spK rfl rfl rfl (Z1W (b:=false) (vkv V) [(xb:Int)] Z4n (KeyT.of Z4c Z4Q) (Z0M zv3) rfl Z23 true) rfl ?_
 rw [hgb]
 refine pur 5 rfl (sqt 11 rfl (pur 2 rfl (sp rfl (PE.neqBool ub4 rfl rfl) rfl (pur 1 rfl ?_))))
 refine Zw 51 rfl ?_ ?_<;>intro g51
 refine pur 1 rfl ?_
 refine spG rfl rfl rfl rfl (PE.nilCheck rfl) rfl ?_
 refine spG rfl rfl rfl rfl (PE.fA ZaS rfl) rfl ?_
 refine Z0U rfl rfl rfl rfl rfl (lfB (sz:=4) Z3k rfl) rfl (pur 1 rfl ?_)
 refine Z7a rfl rfl rfl rfl rfl (hd.cal) rfl rfl (hd.op k _ _ (by omega) (fun g hg=>sR.sub g hg)) ?_
 refine pur 1 rfl ?_
 refine Z1 rfl ?_ ?_<;>intro hc1
 have hb2:ZcK d.h.gaps d.cl (Z2o V) k=true:=by rw [hcB];simp_all
 refine sqr 5 rfl (pur 2 rfl ?_)
 refine bsl (out:=[_]) rfl Z0F zl3 rfl rfl rfl rfl rfl rfl (fun b61=>?_)
 refine apO (o) rfl Z37 rfl rfl (ZU (row:=[.int .i64 k]) rfl) rfl rfl ((by rw [irl];simp only [List.length_singleton];omega)) rfl (fun o62=>?_)
 refine pur 1 rfl (sqr 2 rfl (sp rfl (PE.add rfl rfl (by omega)) rfl (pur 1 rfl ?_)))
 exact Z7 ⟨⟨k+1,by omega⟩,o62.cast (by rw [ZaL hb2];simp [Z6])⟩ (fun w h9=>(h9.del b61).del b11)
 have hb2:ZcK d.h.gaps d.cl (Z2o V) k=false:=by rw [hcB];simp_all
 refine Z2 (sqr 2 rfl (sp rfl (PE.add rfl rfl (by omega)) rfl (pur 1 rfl ?_)))
 exact Z7 ⟨⟨k+1,by omega⟩,o.cast (by rw [Z5x hb2])⟩ (fun w h9=>h9.del b11)
 have hb2:ZcK d.h.gaps d.cl (Z2o V) k=false:=by rw [hcB];simp_all
 refine pur 7 rfl ?_
 refine ZG rfl ?_
 refine Z2 (sqr 2 rfl (sp rfl (PE.add rfl rfl (by omega)) rfl (pur 1 rfl ?_)))
 exact Z7 ⟨⟨k+1,by omega⟩,o.cast (by rw [Z5x hb2])⟩ (fun w h9=>h9.del b11)
 obtain rfl:k=d.h.gaps.length:=by omega
 obtain ⟨ac,cc,he,hcc,hf⟩:=o.freezeC
 rw [irl] at hcc
 rw [he,irl]
 refine Sy.heap (fun w h9=>hf h9) ?_
 refine Z9 (Za (Za (Zh (sqt 2 rfl (pur 2 rfl (Z5 ?_))))))
 exact rtA rfl rfl rfl ⟨fl,V,ac,cc,hfl,hfw,hsh,rfl,hcc,rfl,rfl⟩ (fun w h=>h.del m)
theorem ZcA:cal Tryz.prog 78=true:=by kernel_rfl
theorem ZhG:cal Tryz.prog 79=true:=by kernel_rfl
theorem Z7k:Z0m Tryz.prog 322 0=some 0:=by kernel_rfl
theorem Z02:Z0m Tryz.prog 324 0=some 0:=by kernel_rfl
theorem Z3d:Z0m Tryz.prog 324 1=some 1:=by kernel_rfl
theorem Ze3 (h:Hse) (ag as_:Option Addr) (cg cs:Nat) (bd:Nat):(fun i=>!(dkA h ag as_ cg cs bd).cl.testBit i)=fun _=>true:=by
 funext i
 show (!(Nat.testBit 0 i))=true
 rw [Nat.zero_testBit];rfl
theorem Z1O {h:Hse} {l k:List Int} (hb:h.Bot l k):(∀ x∈l,0≤x∧x<7)∧(∀ x∈k,0≤x∧x<7)∧l.Nodup∧k.Nodup∧l.length≤7∧k.length≤7:=by
 have hbn:=hb.ok.bins
 have h1:=Z2c hb.el
 have h2:=Z2c hb.ek
 have key:∀ m:List Int,(∀ x∈m,0≤x∧x<7)→m.Nodup→m.length≤7:=fun m hm hn=>by
   have h3:=(Zb0 (fun x hx=>(hm x hx).1) hn).length_le_of_subset (l₂:=List.range 7) fun v hv=>by
     obtain ⟨x,hx,rfl⟩:=List.mem_map.1 hv
     have:=hm x hx
     exact List.mem_range.2 (by omega)
   simpa using h3
 have q1:∀ x∈l,0≤x∧x<7:=fun x hx=>by have:=h1.1 x hx;omega
 have q2:∀ x∈k,0≤x∧x<7:=fun x hx=>by have:=h2.1 x hx;omega
 exact ⟨q1,q2,h1.2,h2.2,key l q1 h1.2,key k q2 h2.2⟩
def Zkm (h:Hse) (fr to_:List Int) (H:Z8) (R:Z4):Value→Z8→Z4→Prop:=fun v H' R'=>H'=H∧((h.botE fr to_≠0∧v = .tuple #[.slice none 0 0,.int .i64 (h.botE fr to_)]∧R'=R) ∨
 (h.botE fr to_=0∧∃ (f:Nat→Int) (V:List (Nat×Int)) (a:Option Addr) (c:Nat),Flw f (msk fr) (msk to_) h.gaps∧Shn h.gaps (fun _=>true) f (msk fr) (msk to_) V∧(Z2n (Z2o V) h.gaps).length≤c∧v = .tuple #[.slice a (Z2n (Z2o V) h.gaps).length c,.int .i64 0]∧R'=RowsA a 1 (Z6 (Z2n (Z2o V) h.gaps))::R))
theorem Zd5 (l:List Int) (k:Int):msk (l++[k])=msk l|||2 ^ k.toNat:=by unfold msk;rw [List.foldl_append];rfl
theorem Z27 (m k:Nat):decide (((((m>>>k)&&&1:Nat)):Int)=0)=!m.testBit k:=by
 rw [← Z1u]
 have h:(m>>>k)&&&1<2:=by rw [Nat.and_one_is_mod];exact Nat.mod_lt _ (by decide)
 rcases (show (m>>>k)&&&1=0∨(m>>>k)&&&1=1 by omega) with h1 | h1<;>rw [h1]<;>rfl
theorem Z9G (m k:Nat):decide (((((m>>>k)&&&1:Nat)):Int)=1)=decide (m / 2 ^ k%2=1):=by
 rw [Nat.and_one_is_mod,Nat.shiftRight_eq_div_pow];exact decide_eq_decide.2 (by omega)
theorem Z6P (cl m:Nat) (g:Gp):∀ (gs:List Gp) (i acc:Nat),ZbG cl m (gs++[g]) i acc=bif cl.testBit (i+gs.length) then ZbG cl m gs i acc else ZbG cl m gs i acc|||gpo m g
 | [],i,acc=>by simp [ZbG]
 | x::gs,i,acc=>by
   rw [List.cons_append]
   unfold ZbG
   rw [Z6P cl m g gs,List.length_cons,show i+1+gs.length=i+(gs.length+1) by omega]
def Z4z (gs:List Gp) (cl m k:Nat):Nat:=ZbG cl m (gs.take k) 0 m
theorem Z8L (gs:List Gp) (cl m:Nat):Z4z gs cl m gs.length=spr gs cl m:=by unfold Z4z spr;rw [List.take_length]
theorem Z20 {gs:List Gp} {cl m k:Nat} {g:Gp} (h:gs[k]?=some g):Z4z gs cl m (k+1)=bif cl.testBit k then Z4z gs cl m k else Z4z gs cl m k|||gpo m g:=by
 unfold Z4z
 have hk:=(List.getElem?_eq_some_iff.1 h).1
 rw [List.take_add_one,h,Option.toList_some,Z6P,List.length_take,Nat.zero_add,show min k gs.length=k by omega]
theorem ZbH {gs:List Gp} (hw:Wth gs 7) {cl m:Nat} (hm:m<2 ^ 7) (k:Nat):Z4z gs cl m k<2 ^ 7:=Z0p fun v hv=>by
 unfold Z4z at hv
 rcases (Z30 _ _ _).1 hv with h | ⟨j,g,h1,_,h3⟩
 · exact Z1N hm h
 · have hg:=hw g (List.mem_of_mem_take (List.mem_of_getElem? h1))
   rcases gpo_test.1 h3 with ⟨_,h5⟩ | ⟨_,h5⟩<;>omega
theorem Z8k {m xa xb:Nat} {g:Gp} (ha:g.a=xa) (hb:g.b=xb):gpo m g=(bif m.testBit xa then 2 ^ xb else 0)|||(bif m.testBit xb then 2 ^ xa else 0):=by
 unfold gpo;rw [ha,hb];rfl
theorem Ziy {gs:List Gp} {m c k:Nat} {g:Gp} {xa xb:Nat} (h:gs[k]?=some g) (ha:g.a=xa) (hb:g.b=xb):usf gs m c k=(!c.testBit k&&!(m.testBit xa&&m.testBit xb)):=by
 unfold usf;rw [h];dsimp only;rw [ha,hb];rfl
theorem Z3T (p:Nat→Bool) (n:Nat):msF p (n+1)=msF p n|||(bif p n then 2 ^ n else 0):=rfl
theorem Zi9 (p:Nat→Bool) (n:Nat):msF p n<2 ^ n:=Z0p fun v hv=>by
 rw [Z5F,Bool.and_eq_true,decide_eq_true_eq] at hv;exact hv.1
theorem Z7y {j n:Nat} (h:j<n) (hn:n≤10):1*2 ^ j≤1024∧1*2 ^ j<2 ^ 62:=by
 have:2 ^ j≤2 ^ 10:=Nat.pow_le_pow_right (by decide) (by omega)
 have e:(2:Nat) ^ 10=1024:=rfl
 have e2:(1024:Nat)<2 ^ 62:=by decide
 omega
structure Rc where
 d:Dk
 br:Nat
 K:Nat
 sp:Nat
 mm:Nat
def Rc.row (r:Rc):List Value:=[.pointer (some ⟨r.d.bd,0,none⟩),.int .i64 (r.K:Int),.int .i64 (r.sp:Int),.map (some r.mm)]
def plc (m c:Nat):List Value:=[.int .i64 (m:Int),.int .i64 (c:Int)]
set_option maxHeartbeats 400000 in
theorem Zj5 (h:Hse) (ag as_:Option Addr) (cg cs:Nat) (hlg:h.gaps.length≤9223372036854775807) (hls:h.sights.length≤9223372036854775807) (fr to_:List Int) (af at_:Option Addr) (cf ct:Nat) (hlf:fr.length≤1000000) (hlt:to_.length≤1000000) (hfc:fr.length≤cf) (htc:to_.length≤ct) (H:Z8) (R:Z4) [hG:MemRows ag 2 (grows h.gaps) R] [hS:MemRows as_ 3 (srows h.sights) R] [hF:MemRows af 1 (Z6 fr) R] [hT:MemRows at_ 1 (Z6 to_) R] :
    Fn Tryz.prog 33 [h.v (h.sg ag cg) (h.ss as_ cs),.slice af fr.length cf,.slice at_ to_.length ct] H R (Zkm h fr to_ H R):=by
 refine Zc Tryz.func33 rfl Tryz.ntmps33 rfl ?_
 refine sqt 3 rfl (bx rfl rfl rfl (fun b3=>pur 2 rfl (Z0 (sqt 5 rfl (spL rfl rfl (lhA (htl h (h.sg ag cg) (h.ss as_ cs)) Z2m rfl rfl rfl) rfl (pur 2 rfl ?_))))))
 refine clV rfl ZcA rfl rfl (Z7U h ag as_ cg cs hlg hls fr to_ af at_ cf ct (by omega) (by omega) hfc htc _ _) ?_
 refine pur 1 rfl (sqt 2 rfl (pur 2 rfl ?_))
 refine Z1 rfl ?_ ?_<;>intro hc0
 have hbe:h.botE fr to_≠0:=of_decide_eq_true hc0
 refine sqt 3 rfl (pur 3 rfl (Z5 ?_))
 exact rtB rfl rfl rfl rfl ⟨rfl,.inl ⟨hbe,rfl,rfl⟩⟩ (fun w h9=>h9.del b3)
 have hbe:h.botE fr to_=0:=Classical.byContradiction fun e=>by rw [decide_eq_true e] at hc0;cases hc0
 have hb:=Z4Z hbe
 obtain ⟨q1,q2,q3,q4,q5,q6⟩:=Z1O hb
 refine Z2 (sqt 7 rfl (spL rfl rfl (lhA (htl h (h.sg ag cg) (h.ss as_ cs)) Z2m rfl rfl rfl) rfl ?_))
 refine cl rfl Z94 rfl rfl (Z92 h ag as_ cg cs _ _) ?_
 rintro _ _ _ ⟨bd,rfl,rfl,rfl⟩
 refine pur 2 rfl ?_
 refine cl rfl ZhG rfl rfl (Zgm (dkA h ag as_ cg cs bd) (Z1m h ag as_ cg cs hb.ok bd) fr to_ af at_ cf ct q1 q2 q3 (by omega) hb.no _ _) ?_
 rintro _ _ _ ⟨fl,V,a,c,hfl,hfw,hsh,rfl,hcc,rfl,rfl⟩
 have hop:=Ze3 h ag as_ cg cs bd
 rw [hop] at hsh
 rw [show Zf6 (dkA h ag as_ cg cs bd).h.gaps (dkA h ag as_ cg cs bd).cl (Z2o V)=Z2n (Z2o V) h.gaps from Z6l _ _] at hcc ⊢
 refine pur 2 rfl (Z5 ?_)
 exact rtB rfl rfl rfl rfl ⟨rfl,.inr ⟨hbe,na fl,V,a,c,hfw,hsh,hcc,rfl,rfl⟩⟩ drp
theorem Zgu (l:List Int) (hl:∀ k∈l,0≤k∧k<10) (hll:l.length≤1000000) (a:Option Addr) (c:Nat) (H:Z8) (R:Z4) [hL:MemRows a 1 (Z6 l) R] :
    FnV Tryz.prog 215 [.slice a l.length c] H R (.int .i64 (msk l:Nat)):=by
 refine Zc Tryz.func215 rfl Tryz.ntmps215 rfl ?_
 refine sqt 1 rfl (pur 1 rfl (sqt 1 rfl (pur 1 rfl (Z0 (sqt 3 rfl (pur 1 rfl (sp rfl (PE.lenSl ZT rfl) rfl (pur 1 rfl (Z3 ?_)))))))))
 refine Zb (ι:={k:Nat // k≤l.length}) (fun k=>⟨[(3,.int .i64 (msk (l.take k.1):Nat)),(6,.slice a l.length c),(7,.int .i64 l.length),(8,.int .i64 k.1)],H,R⟩) (fun k=>l.length-k.1) ⟨0,Nat.zero_le _⟩ ?_ (fun k=>?_)
 exact Ze idH
 obtain ⟨k,hk⟩:=k
 dsimp only at hk ⊢
 refine sqt 1 rfl (pur 1 rfl (Z0 ?_))
 refine Z1 rfl ?_ ?_<;>intro hc0<;>try simp only [cS] at hc0
 obtain ⟨x,hx⟩:∃ x,l[k]?=some x:=⟨_,List.getElem?_eq_getElem (by omega)⟩
 have hx10:=hl x (List.mem_of_getElem? hx)
 obtain ⟨j,rfl⟩:∃ j:Nat,x=j:=⟨x.toNat,by omega⟩
 have hlt:msk (l.take k)<2 ^ 10:=msk_lt (n:=10) fun i hi=>by have:=hl i (List.mem_of_mem_take hi);omega
 have hp:=Z7y (show j<10 by omega) (Nat.le_refl _)
 have hst:msk (l.take (k+1))=msk (l.take k)|||(1*2 ^ j):=by rw [List.take_add_one,hx,Option.toList_some,Zd5,Nat.one_mul];rfl
 refine Zi (a:=a) (sz:=1) (rows:=Z6 l) (ne0 (by rw [irl];omega)) (fun ba oa he=>?_)
 subst he
 refine Z2 (Z0 (Z3 (sqt 3 rfl (sp rfl (PE.indexAddr Z0G rfl rfl (by omega) (by omega)) rfl (spL rfl rfl (lf0 sc3 (ZQ hx) rfl) rfl (pur 1 rfl (sqr 5 rfl (pur 2 rfl (sp rfl (PE.shlN (m:=1) (n:=j) rfl rfl rfl (by omega) (by omega)) rfl (sp rfl (PE.orN (m:=msk (l.take k)) (n:=1*2 ^ j) rfl rfl (Nat.lt_trans hlt (by decide)) (by omega)) rfl (pur 1 rfl (sqr 2 rfl (sp rfl (PE.add rfl rfl (by omega)) rfl (pur 1 rfl ?_))))))))))))))
 exact ZC ⟨k+1,by omega⟩ (by dsimp only;omega) (by rw [hst];exact sbA) idH
 obtain rfl:k=l.length:=by omega
 rw [List.take_length]
 refine Z9 (Za (Za (Zh (sqt 2 rfl (pur 2 rfl (Z5 ?_))))))
 exact rtA rfl rfl rfl ⟨rfl,rfl,rfl⟩ idH
theorem ZdE (s:Nat) (hs:s<2 ^ 10) (H:Z8) (R:Z4) :
    Fn Tryz.prog 217 [.int .i64 s] H R (fun v H' R'=>∃ o:OSl 3 1 (Z6 (Z2U s)),v=o.fs∧H'=o.G++H∧R'=R):=by
 refine Zc Tryz.func217 rfl Tryz.ntmps217 rfl ?_
 refine sqt 1 rfl (pur 1 rfl (sqt 1 rfl (pur 1 rfl (Z0 (sqt 1 rfl (pur 1 rfl (Z3 ?_)))))))
 refine Zb (ι:=(k:{k:Nat // k≤10})×OSl 3 1 (Z6 (Z9v s k.1))) (fun x=>⟨[(0,.int .i64 s),(3,x.2.fs),(4,.int .i64 x.1.1)],x.2.G++H,R⟩) (fun x=>10-x.1.1) ⟨⟨0,by omega⟩,OSl.nil _ _⟩ ?_ (fun x=>?_)
 exact Ze idH
 obtain ⟨⟨k,hk⟩,o⟩:=x
 dsimp only at hk o ⊢
 have hml:=Zd0 s k
 refine Z0 (sqt 4 rfl (pur 2 rfl (sp rfl (PE.shrN (m:=s) (n:=k) rfl rfl (by omega)) rfl (pur 1 rfl ?_))))
 refine Z1 rfl ?_ ?_<;>intro hc0<;>try simp only [cS] at hc0
 have hk4:k<10:=by
   rcases Nat.lt_or_ge k 10 with h1 | h1
   · exact h1
   · obtain rfl:k=10:=by omega
     have:s>>>10=0:=by rw [Nat.shiftRight_eq_div_pow];exact Nat.div_eq_of_lt hs
     omega
 refine Z2 (Z0 (Z3 (sqt 5 rfl (pur 2 rfl (sp rfl (PE.shrN (m:=s) (n:=k) rfl rfl (by omega)) rfl (sp rfl (PE.andN (m:=s>>>k) (n:=1) rfl rfl rfl (Nat.le_trans (Nat.shiftRight_le _ _) (by omega)) (by decide)) rfl (pur 1 rfl ?_)))))))
 refine Z1 rfl ?_ ?_<;>intro hc1
 rw [Z9G] at hc1
 have eb:=Zfr (of_decide_eq_true hc1)
 refine sqr 5 rfl (pur 2 rfl ?_)
 refine bsl (out:=[_]) rfl Z0F zl3 rfl rfl rfl rfl rfl rfl (fun b18=>?_)
 refine apO (o) rfl Z37 rfl rfl (ZU (row:=[.int .i64 k]) rfl) rfl rfl ((by rw [irl];simp only [List.length_singleton];omega)) rfl (fun o19=>?_)
 refine pur 1 rfl (sqr 3 rfl (pur 1 rfl (sp rfl (PE.add rfl rfl (by omega)) rfl (pur 1 rfl ?_))))
 first
   | exact ZF ⟨⟨k+1,by omega⟩,o19.cast (by rw [eb];simp [Z6])⟩ (by dsimp only;omega) (fun w h=>h.del b18)
   | exact ZF ⟨⟨k+1,by omega⟩,o.cast (by rw [eb])⟩ (by dsimp only;omega) idH
 rw [Z9G] at hc1
 have eb:=Z8v (of_decide_eq_false hc1)
 refine Z2 (sqr 3 rfl (pur 1 rfl (sp rfl (PE.add rfl rfl (by omega)) rfl (pur 1 rfl ?_))))
 first
   | exact ZF ⟨⟨k+1,by omega⟩,o19.cast (by rw [eb];simp [Z6])⟩ (by dsimp only;omega) (fun w h=>h.del b18)
   | exact ZF ⟨⟨k+1,by omega⟩,o.cast (by rw [eb])⟩ (by dsimp only;omega) idH
 have hz:s / 2 ^ k=0:=by
   have h5:s>>>k=0:=Nat.le_zero.1 (Int.ofNat_le.1 hc0)
   rw [Nat.shiftRight_eq_div_pow] at h5;exact h5
 refine Z9 (Za (Za (Zh (sqt 2 rfl (pur 2 rfl (Z5 ?_))))))
 exact rtA rfl rfl rfl ⟨o.cast (by rw [Zfp hz (by omega)]),rfl,rfl,rfl⟩ idH
set_option maxHeartbeats 600000 in
theorem Z3Q (r:Rc) (hd:r.d.Ok) (m c:Nat) (hm:m<2 ^ 7) (hc:c<2 ^ 10) (H:Z8) (R:Z4) [hD:MemRows (some ⟨r.d.bd,0,none⟩) 4 [r.d.row] R] [hG:MemRows r.d.ag 2 (grows r.d.h.gaps) R] [hS:MemRows r.d.as_ 3 (srows r.d.h.sights) R] [sR:SubF r.d.R0 R] [hX:MemRows (some ⟨r.br,0,none⟩) 4 [r.row] R] :
    FnV Tryz.prog 218 [.pointer (some ⟨r.br,0,none⟩),.agg (plc m c).toArray] H R (.int .i64 (spr r.d.h.gaps c m:Nat)):=by
 refine Zc Tryz.func218 rfl Tryz.ntmps218 rfl ?_
 refine sqt 2 rfl (bx rfl rfl rfl (fun b3=>pur 1 rfl (sqt 3 rfl (sp rfl (PE.fA Z02 rfl) rfl (spL rfl rfl (lh sc3 rfl rfl) rfl (pur 1 rfl (Z0 (sqt 10 rfl (pur 1 rfl (sp rfl (PE.nilCheck rfl) rfl (sp rfl (PE.fA Z7k rfl) rfl (spL rfl rfl (lfB (sz:=4) Z4x rfl) rfl (sp rfl (PE.nilCheck rfl) rfl (sp rfl (PE.fA Z1h rfl) rfl (sp rfl (PE.fA Z10 rfl) rfl ?_)))))))))))))))
 refine spL rfl rfl (lfB (sz:=4) Z7B rfl) rfl (sp rfl (PE.lenSl Z7n rfl) rfl (pur 1 rfl (Z3 ?_)))
 have hok:=hd.ok
 have hgl:=hok.gl
 have hbn:=hok.bins
 have hm9:m≤1000000:=by have:(2:Nat) ^ 7=128:=rfl;omega
 have hc9:c≤1000000:=by have:(2:Nat) ^ 10=1024:=rfl;omega
 have hw7:Wth r.d.h.gaps 7:=fun g hg=>by have:=hok.gaps g hg;omega
 refine Zb (ι:={k:Nat // k≤r.d.h.gaps.length}) (fun k=>⟨[(3,.pointer (some ⟨b3,0,none⟩)),(5,.int .i64 (Z4z r.d.h.gaps c m k.1:Nat)),(17,r.d.h.sg r.d.ag r.d.cg),(18,.int .i64 r.d.h.gaps.length),(19,.int .i64 k.1)],(b3,cel 324 (plc m c))::H,R⟩) (fun k=>r.d.h.gaps.length-k.1) ⟨0,Nat.zero_le _⟩ ?_ (fun k=>?_)
 exact Ze idH
 obtain ⟨k,hk⟩:=k
 dsimp only at hk ⊢
 have hlt:=ZbH hw7 (cl:=c) hm k
 refine sqt 1 rfl (pur 1 rfl (Z0 ?_))
 refine Z1 rfl ?_ ?_<;>intro hc0<;>try simp only [cS] at hc0
 obtain ⟨g,hgg⟩:∃ g,r.d.h.gaps[k]?=some g:=⟨_,List.getElem?_eq_getElem (by omega)⟩
 have hgo2:=hok.gaps g (List.mem_of_getElem? hgg)
 obtain ⟨xa,hxa⟩:∃ n:Nat,g.a=n:=⟨g.a.toNat,by omega⟩
 obtain ⟨xb,hxb⟩:∃ n:Nat,g.b=n:=⟨g.b.toNat,by omega⟩
 have hp1:=Z7y (show xa<10 by omega) (Nat.le_refl _)
 have hp2:=Z7y (show xb<10 by omega) (Nat.le_refl _)
 have hp3:=Z7y (show k<10 by omega) (Nat.le_refl _)
 refine Zi (a:=r.d.ag) (sz:=2) (rows:=grows r.d.h.gaps) (by intro h0;have:=congrArg List.length h0;rw [Z4k] at this;simp only [List.length_nil] at this;have:=(List.getElem?_eq_some_iff.1 hgg).1;omega) (fun bq og he=>?_)
 have hG9:=hG.mem
 rw [he] at hG9
 haveI:=MemRows.mk hG9
 rw [show r.d.h.sg r.d.ag r.d.cg = .slice (some ⟨bq,og,none⟩) r.d.h.gaps.length r.d.cg by unfold Hse.sg;rw [he]]
 refine Z2 (Z0 (Z3 (sqt 6 rfl (pur 1 rfl (sp rfl (PE.indexAddr ZcN rfl rfl (by omega) (by omega)) rfl (spL rfl rfl (lfA Zcd (row:=grow g) (Z2O hgg) rfl) rfl (alc rfl Z6W rfl (fun b7=>pur 1 rfl ?_))))))))
 refine ZB (l':=grow g) rfl rfl rfl ZhO rfl rfl rfl rfl (nl rfl) ?_
 refine Z0 (sqt 6 rfl (sp rfl (PE.fA Z3d rfl) rfl (spL rfl rfl (lh sc3 rfl rfl) rfl (pur 1 rfl (sp rfl (PE.shrN (m:=c) (n:=k) rfl rfl (by omega)) rfl (sp rfl (PE.andN (m:=c>>>k) (n:=1) rfl rfl rfl (Nat.le_trans (Nat.shiftRight_le _ _) (by omega)) (by decide)) rfl (pur 1 rfl ?_)))))))
 refine Z1 rfl ?_ ?_<;>intro hc1
 rw [Z1u] at hc1
 refine Z9 (Za (Zh (sqr 2 rfl (sp rfl (PE.add rfl rfl (by omega)) rfl (pur 1 rfl ?_)))))
 have hn:Z4z r.d.h.gaps c m (k+1)=Z4z r.d.h.gaps c m k:=by rw [Z20 hgg,hc1];rfl
 exact ZC ⟨k+1,by omega⟩ (by dsimp only;omega) (by rw [hn];exact sbA) (fun w h=>h.del b7)
 rw [Z1u] at hc1
 refine Z2 (Z0 (sqt 7 rfl (sp rfl (PE.fA Z02 rfl) rfl (spL rfl rfl (lh sc3 rfl rfl) rfl (sp rfl (PE.fA Z19 rfl) rfl (spL rfl rfl (lh sc3 rfl rfl) rfl ?_))))))
 rw [hxa]
 refine sp rfl (PE.shrN (m:=m) (n:=xa) rfl rfl (by omega)) rfl (sp rfl (PE.andN (m:=m>>>xa) (n:=1) rfl rfl rfl (Nat.le_trans (Nat.shiftRight_le _ _) (by omega)) (by decide)) rfl (pur 1 rfl ?_))
 refine Z1 rfl ?_ ?_<;>intro hc2
 rw [Z1u] at hc2
 have hor:Z4z r.d.h.gaps c m k|||1*2 ^ xb<2 ^ 62:=Nat.or_lt_two_pow (Nat.lt_trans hlt (by decide)) (by omega)
 refine sqr 6 rfl (pur 1 rfl (sp rfl (PE.fA Z1a rfl) rfl (spL rfl rfl (lh sc3 rfl rfl) rfl ?_)))
 rw [hxb]
 refine sp rfl (PE.shlN (m:=1) (n:=xb) rfl rfl rfl (by omega) (by omega)) rfl (sp rfl (PE.orN (m:=Z4z r.d.h.gaps c m k) (n:=1*2 ^ xb) rfl rfl (Nat.lt_trans hlt (by decide)) (by omega)) rfl (pur 1 rfl (sqt 7 rfl (sp rfl (PE.fA Z02 rfl) rfl (spL rfl rfl (lh sc3 rfl rfl) rfl (sp rfl (PE.fA Z1a rfl) rfl (spL rfl rfl (lh sc3 rfl rfl) rfl ?_)))))))
 rw [hxb]
 refine sp rfl (PE.shrN (m:=m) (n:=xb) rfl rfl (by omega)) rfl (sp rfl (PE.andN (m:=m>>>xb) (n:=1) rfl rfl rfl (Nat.le_trans (Nat.shiftRight_le _ _) (by omega)) (by decide)) rfl (pur 1 rfl ?_))
 refine Z1 rfl ?_ ?_<;>intro hc3
 rw [Z1u] at hc3
 refine sqr 6 rfl (pur 1 rfl (sp rfl (PE.fA Z19 rfl) rfl (spL rfl rfl (lh sc3 rfl rfl) rfl ?_)))
 rw [hxa]
 refine sp rfl (PE.shlN (m:=1) (n:=xa) rfl rfl rfl (by omega) (by omega)) rfl (sp rfl (PE.orN (m:=Z4z r.d.h.gaps c m k|||1*2 ^ xb) (n:=1*2 ^ xa) rfl rfl hor (by omega)) rfl (pur 1 rfl (sqr 2 rfl (sp rfl (PE.add rfl rfl (by omega)) rfl (pur 1 rfl ?_)))))
 have hn:Z4z r.d.h.gaps c m (k+1)=(Z4z r.d.h.gaps c m k|||1*2 ^ xb)|||1*2 ^ xa:=by rw [Z20 hgg,hc1,cond_false,Z8k hxa hxb];rw [hc2,hc3,cond_true,cond_true,Nat.one_mul,Nat.one_mul,Nat.or_assoc]
 exact ZC ⟨k+1,by omega⟩ (by dsimp only;omega) (by rw [hn];exact sbA) (fun w h=>h.del b7)
 rw [Z1u] at hc3
 refine Z2 (sqr 2 rfl (sp rfl (PE.add rfl rfl (by omega)) rfl (pur 1 rfl ?_)))
 have hn:Z4z r.d.h.gaps c m (k+1)=Z4z r.d.h.gaps c m k|||1*2 ^ xb:=by rw [Z20 hgg,hc1,cond_false,Z8k hxa hxb];rw [hc2,hc3,cond_true,cond_false,Nat.one_mul,Nat.or_zero]
 exact ZC ⟨k+1,by omega⟩ (by dsimp only;omega) (by rw [hn];exact sbA) (fun w h=>h.del b7)
 rw [Z1u] at hc2
 refine Z2 (sqt 7 rfl (sp rfl (PE.fA Z02 rfl) rfl (spL rfl rfl (lh sc3 rfl rfl) rfl (sp rfl (PE.fA Z1a rfl) rfl (spL rfl rfl (lh sc3 rfl rfl) rfl ?_)))))
 rw [hxb]
 refine sp rfl (PE.shrN (m:=m) (n:=xb) rfl rfl (by omega)) rfl (sp rfl (PE.andN (m:=m>>>xb) (n:=1) rfl rfl rfl (Nat.le_trans (Nat.shiftRight_le _ _) (by omega)) (by decide)) rfl (pur 1 rfl ?_))
 refine Z1 rfl ?_ ?_<;>intro hc3
 rw [Z1u] at hc3
 refine sqr 6 rfl (pur 1 rfl (sp rfl (PE.fA Z19 rfl) rfl (spL rfl rfl (lh sc3 rfl rfl) rfl ?_)))
 rw [hxa]
 refine sp rfl (PE.shlN (m:=1) (n:=xa) rfl rfl rfl (by omega) (by omega)) rfl (sp rfl (PE.orN (m:=Z4z r.d.h.gaps c m k) (n:=1*2 ^ xa) rfl rfl (Nat.lt_trans hlt (by decide)) (by omega)) rfl (pur 1 rfl (sqr 2 rfl (sp rfl (PE.add rfl rfl (by omega)) rfl (pur 1 rfl ?_)))))
 have hn:Z4z r.d.h.gaps c m (k+1)=Z4z r.d.h.gaps c m k|||1*2 ^ xa:=by rw [Z20 hgg,hc1,cond_false,Z8k hxa hxb];rw [hc2,hc3,cond_true,cond_false,Nat.one_mul,Nat.zero_or]
 exact ZC ⟨k+1,by omega⟩ (by dsimp only;omega) (by rw [hn];exact sbA) (fun w h=>h.del b7)
 rw [Z1u] at hc3
 refine Z2 (sqr 2 rfl (sp rfl (PE.add rfl rfl (by omega)) rfl (pur 1 rfl ?_)))
 have hn:Z4z r.d.h.gaps c m (k+1)=Z4z r.d.h.gaps c m k:=by rw [Z20 hgg,hc1,cond_false,Z8k hxa hxb];rw [hc2,hc3,cond_false,cond_false,Nat.or_zero,Nat.or_zero]
 exact ZC ⟨k+1,by omega⟩ (by dsimp only;omega) (by rw [hn];exact sbA) (fun w h=>h.del b7)
 obtain rfl:k=r.d.h.gaps.length:=by omega
 rw [Z8L]
 refine Z9 (Za (Za (Zh (sqt 2 rfl (pur 2 rfl (Z5 ?_))))))
 exact rtA rfl rfl rfl ⟨rfl,rfl,rfl⟩ (fun w h=>h.del b3)
set_option maxHeartbeats 600000 in
theorem Zcw (r:Rc) (hd:r.d.Ok) (m c:Nat) (hm:m<2 ^ 7) (hc:c<2 ^ 10) (H:Z8) (R:Z4) [hD:MemRows (some ⟨r.d.bd,0,none⟩) 4 [r.d.row] R] [hG:MemRows r.d.ag 2 (grows r.d.h.gaps) R] [hS:MemRows r.d.as_ 3 (srows r.d.h.sights) R] [sR:SubF r.d.R0 R] [hX:MemRows (some ⟨r.br,0,none⟩) 4 [r.row] R] :
    FnV Tryz.prog 262 [.pointer (some ⟨r.br,0,none⟩),.agg (plc m c).toArray] H R (.int .i64 (Z0k r.d.h.gaps m c:Nat)):=by
 refine Zc Tryz.func262 rfl Tryz.ntmps262 rfl ?_
 refine sqt 2 rfl (bx rfl rfl rfl (fun b3=>pur 1 rfl (sqt 1 rfl (pur 1 rfl (Z0 (sqt 10 rfl (pur 1 rfl (sp rfl (PE.nilCheck rfl) rfl (sp rfl (PE.fA Z7k rfl) rfl (spL rfl rfl (lfB (sz:=4) Z4x rfl) rfl (sp rfl (PE.nilCheck rfl) rfl (sp rfl (PE.fA Z1h rfl) rfl (sp rfl (PE.fA Z10 rfl) rfl (spL rfl rfl (lfB (sz:=4) Z7B rfl) rfl (sp rfl (PE.lenSl Z7n rfl) rfl ?_)))))))))))))))
 refine pur 1 rfl (Z3 ?_)
 have hok:=hd.ok
 have hgl:=hok.gl
 have hbn:=hok.bins
 have hm9:m≤1000000:=by have:(2:Nat) ^ 7=128:=rfl;omega
 have hc9:c≤1000000:=by have:(2:Nat) ^ 10=1024:=rfl;omega
 have hw7:Wth r.d.h.gaps 7:=fun g hg=>by have:=hok.gaps g hg;omega
 refine Zb (ι:={k:Nat // k≤r.d.h.gaps.length}) (fun k=>⟨[(3,.pointer (some ⟨b3,0,none⟩)),(5,.int .i64 (msF (usf r.d.h.gaps m c) k.1:Nat)),(15,r.d.h.sg r.d.ag r.d.cg),(16,.int .i64 r.d.h.gaps.length),(17,.int .i64 k.1)],(b3,cel 324 (plc m c))::H,R⟩) (fun k=>r.d.h.gaps.length-k.1) ⟨0,Nat.zero_le _⟩ ?_ (fun k=>?_)
 exact Ze idH
 obtain ⟨k,hk⟩:=k
 dsimp only at hk ⊢
 have hlt:msF (usf r.d.h.gaps m c) k<2 ^ 62:=Nat.lt_of_lt_of_le (Zi9 _ k) (Nat.pow_le_pow_right (by decide) (by omega))
 refine sqt 1 rfl (pur 1 rfl (Z0 ?_))
 refine Z1 rfl ?_ ?_<;>intro hc0<;>try simp only [cS] at hc0
 obtain ⟨g,hgg⟩:∃ g,r.d.h.gaps[k]?=some g:=⟨_,List.getElem?_eq_getElem (by omega)⟩
 have hgo2:=hok.gaps g (List.mem_of_getElem? hgg)
 obtain ⟨xa,hxa⟩:∃ n:Nat,g.a=n:=⟨g.a.toNat,by omega⟩
 obtain ⟨xb,hxb⟩:∃ n:Nat,g.b=n:=⟨g.b.toNat,by omega⟩
 have hp1:=Z7y (show xa<10 by omega) (Nat.le_refl _)
 have hp2:=Z7y (show xb<10 by omega) (Nat.le_refl _)
 have hp3:=Z7y (show k<10 by omega) (Nat.le_refl _)
 refine Zi (a:=r.d.ag) (sz:=2) (rows:=grows r.d.h.gaps) (by intro h0;have:=congrArg List.length h0;rw [Z4k] at this;simp only [List.length_nil] at this;have:=(List.getElem?_eq_some_iff.1 hgg).1;omega) (fun bq og he=>?_)
 have hG9:=hG.mem
 rw [he] at hG9
 haveI:=MemRows.mk hG9
 rw [show r.d.h.sg r.d.ag r.d.cg = .slice (some ⟨bq,og,none⟩) r.d.h.gaps.length r.d.cg by unfold Hse.sg;rw [he]]
 have hus:=Ziy (m:=m) (c:=c) hgg hxa hxb
 refine Z2 (Z0 (Z3 (sqt 6 rfl (pur 1 rfl (sp rfl (PE.indexAddr ZcN rfl rfl (by omega) (by omega)) rfl (spL rfl rfl (lfA Zcd (row:=grow g) (Z2O hgg) rfl) rfl (alc rfl Z6W rfl (fun b7=>pur 1 rfl ?_))))))))
 refine ZB (l':=grow g) rfl rfl rfl ZhO rfl rfl rfl rfl (nl rfl) ?_
 refine sqt 24 rfl (sp rfl (PE.fA Z3d rfl) rfl (spL rfl rfl (lh sc3 rfl rfl) rfl (pur 1 rfl (sp rfl (PE.shrN (m:=c) (n:=k) rfl rfl (by omega)) rfl (sp rfl (PE.andN (m:=c>>>k) (n:=1) rfl rfl rfl (Nat.le_trans (Nat.shiftRight_le _ _) (by omega)) (by decide)) rfl (pur 2 rfl ?_))))))
 refine Zw 28 rfl ?_ ?_<;>intro g28
 rw [Z27] at g28
 refine spG rfl rfl rfl rfl (PE.fA Z02 rfl) rfl ?_
 refine Z0U rfl rfl rfl rfl rfl (lh sc3 rfl rfl) rfl ?_
 refine spG rfl rfl rfl rfl (PE.fA Z19 rfl) rfl ?_
 refine Z0U rfl rfl rfl rfl rfl (lh sc3 rfl rfl) rfl ?_
 rw [hxa]
 refine spG rfl rfl rfl rfl (PE.shrN (m:=m) (n:=xa) rfl rfl (by omega)) rfl ?_
 refine spG rfl rfl rfl rfl (PE.andN (m:=m>>>xa) (n:=1) rfl rfl rfl (Nat.le_trans (Nat.shiftRight_le _ _) (by omega)) (by decide)) rfl ?_
 refine pur 2 rfl ?_
 refine Zw 36 rfl ?_ ?_<;>intro g36
 rw [Z27] at g36
 refine pur 9 rfl ?_
 refine Z0S rfl ?_
 refine sqr 5 rfl (pur 2 rfl (sp rfl (PE.shlN (m:=1) (n:=k) rfl rfl rfl (by omega) (by omega)) rfl (sp rfl (PE.orN (m:=msF (usf r.d.h.gaps m c) k) (n:=1*2 ^ k) rfl rfl hlt (by omega)) rfl (pur 1 rfl (sqr 2 rfl (sp rfl (PE.add rfl rfl (by omega)) rfl (pur 1 rfl ?_)))))))
 have hn:msF (usf r.d.h.gaps m c) (k+1)=msF (usf r.d.h.gaps m c) k|||1*2 ^ k:=by rw [Z3T,Nat.one_mul,show usf r.d.h.gaps m c k=true by rw [hus];simp_all];rfl
 exact ZC ⟨k+1,by omega⟩ (by dsimp only;omega) (by rw [hn];exact sbA) (fun w h=>h.del b7)
 rw [Z27] at g36
 refine spG rfl rfl rfl rfl (PE.fA Z02 rfl) rfl ?_
 refine Z0U rfl rfl rfl rfl rfl (lh sc3 rfl rfl) rfl ?_
 refine spG rfl rfl rfl rfl (PE.fA Z1a rfl) rfl ?_
 refine Z0U rfl rfl rfl rfl rfl (lh sc3 rfl rfl) rfl ?_
 rw [hxb]
 refine spG rfl rfl rfl rfl (PE.shrN (m:=m) (n:=xb) rfl rfl (by omega)) rfl ?_
 refine spG rfl rfl rfl rfl (PE.andN (m:=m>>>xb) (n:=1) rfl rfl rfl (Nat.le_trans (Nat.shiftRight_le _ _) (by omega)) (by decide)) rfl ?_
 refine pur 3 rfl ?_
 refine Z1 rfl ?_ ?_<;>intro hc1
 try rw [Z27] at hc1
 refine sqr 5 rfl (pur 2 rfl (sp rfl (PE.shlN (m:=1) (n:=k) rfl rfl rfl (by omega) (by omega)) rfl (sp rfl (PE.orN (m:=msF (usf r.d.h.gaps m c) k) (n:=1*2 ^ k) rfl rfl hlt (by omega)) rfl (pur 1 rfl (sqr 2 rfl (sp rfl (PE.add rfl rfl (by omega)) rfl (pur 1 rfl ?_)))))))
 have hn:msF (usf r.d.h.gaps m c) (k+1)=msF (usf r.d.h.gaps m c) k|||1*2 ^ k:=by rw [Z3T,Nat.one_mul,show usf r.d.h.gaps m c k=true by rw [hus];simp_all];rfl
 exact ZC ⟨k+1,by omega⟩ (by dsimp only;omega) (by rw [hn];exact sbA) (fun w h=>h.del b7)
 try rw [Z27] at hc1
 refine Z2 (sqr 2 rfl (sp rfl (PE.add rfl rfl (by omega)) rfl (pur 1 rfl ?_)))
 have hn:msF (usf r.d.h.gaps m c) (k+1)=msF (usf r.d.h.gaps m c) k:=by rw [Z3T,show usf r.d.h.gaps m c k=false by rw [hus];simp_all,cond_false,Nat.or_zero]
 exact ZC ⟨k+1,by omega⟩ (by dsimp only;omega) (by rw [hn];exact sbA) (fun w h=>h.del b7)
 rw [Z27] at g28
 refine pur 8 rfl ?_
 repeat refine spU rfl rfl rfl rfl rfl rfl rfl ?_
 refine pur 2 rfl ?_
 refine ZG rfl ?_
 refine Z2 (sqr 2 rfl (sp rfl (PE.add rfl rfl (by omega)) rfl (pur 1 rfl ?_)))
 have hn:msF (usf r.d.h.gaps m c) (k+1)=msF (usf r.d.h.gaps m c) k:=by rw [Z3T,show usf r.d.h.gaps m c k=false by rw [hus];simp_all,cond_false,Nat.or_zero]
 exact ZC ⟨k+1,by omega⟩ (by dsimp only;omega) (by rw [hn];exact sbA) (fun w h=>h.del b7)
 obtain rfl:k=r.d.h.gaps.length:=by omega
 refine Z9 (Za (Za (Zh (sqt 2 rfl (pur 2 rfl (Z5 ?_))))))
 exact rtA rfl rfl rfl ⟨rfl,rfl,rfl⟩ (fun w h=>h.del b3)
theorem Z0W:Z2q Tryz.prog 324=some 2:=by kernel_rfl
theorem ZO:Z2q Tryz.prog 326=some 3:=by kernel_rfl
theorem Z7Z:cal Tryz.prog 216=true:=by kernel_rfl
theorem ZdV:cal Tryz.prog 217=true:=by kernel_rfl
theorem Z80:cal Tryz.prog 218=true:=by kernel_rfl
theorem Zhx:cal Tryz.prog 262=true:=by kernel_rfl
theorem Z7d:ZJ Tryz.prog 324=some 2:=by kernel_rfl
theorem Z0P:ZJ Tryz.prog 326=some 3:=by kernel_rfl
theorem Z0Y:eqB Tryz.prog 10000 324=some (true,2):=by kernel_rfl
theorem ZaT:Z0m Tryz.prog 322 1=some 1:=by kernel_rfl
theorem ZaU:Z0m Tryz.prog 322 2=some 2:=by kernel_rfl
theorem Z0n:Z0m Tryz.prog 322 3=some 3:=by kernel_rfl
theorem Z1i:Z0m Tryz.prog 326 0=some 0:=by kernel_rfl
theorem ZaV:Z0m Tryz.prog 326 2=some 2:=by kernel_rfl
theorem Z11:Z3g Tryz.prog 320=some (324,326):=by kernel_rfl
theorem Z13:Z3H Tryz.prog 10000 324=true:=by kernel_rfl
theorem Z7w:Z00 Tryz.prog 324=some [(0,1),(1,1)]:=by kernel_rfl
theorem Zbs:Z00 Tryz.prog 326=some [(0,1),(1,1),(2,1)]:=by kernel_rfl
theorem Z2p:Z17 Tryz.prog 320=true:=by kernel_rfl
theorem Z3L:ZD Tryz.prog 324=some ([.int .i64 0,.int .i64 0]):=by kernel_rfl
theorem Z4N:ZD Tryz.prog 326=some ([.int .i64 0,.int .i64 0,.bool false]):=by kernel_rfl
theorem Zkf:zvl Tryz.prog 326=some (.agg #[.int .i64 0,.int .i64 0,.bool false]):=by kernel_rfl
def svv (n l:Nat) (b:Bool):Value:=.agg #[.int .i64 (n:Int),.int .i64 (l:Int),.bool b]
def svl (n l:Nat) (b:Bool):List Value:=[.int .i64 (n:Int),.int .i64 (l:Int),.bool b]
theorem Ze2 {n s:Nat} (h:s<2 ^ n):∀ j,cnt (n+j) s=cnt n s
 | 0=>rfl
 | j+1=>by
   have ih:=Ze2 h j
   unfold cnt at ih ⊢
   rw [← Nat.add_assoc,List.range_succ,List.countP_append,ih,List.countP_cons,List.countP_nil,ZeF h (show n≤n+j by omega)];rfl
theorem Z8s {n s:Nat} (h:s<2 ^ n) (hn:n≤10):(Z2U s).length=cnt n s:=by
 rw [← Ze2 h (10-n),show n+(10-n)=10 by omega]
 unfold Z2U cnt
 rw [List.length_map,List.countP_eq_length_filter]
def Memo (gs:List Gp) (K sp:Nat) (kv:KV):Prop:=∀ e∈kv,∃ (m c n l:Nat) (b:Bool),e=([(m:Int),(c:Int)],svv n l b)∧Z4O gs K sp m c n l b
theorem Memo.len {gs:List Gp} {K sp:Nat} {kv:KV} (h:Memo gs K sp kv):∀ e∈kv,e.1.length=2:=fun e he=>by
 obtain ⟨m,c,n,l,b,rfl,_⟩:=h e he;rfl
theorem Memo.nil (gs:List Gp) (K sp:Nat):Memo gs K sp []:=fun e he=>by cases he
theorem Memo.get {gs:List Gp} {K sp:Nat} {kv:KV} (h:Memo gs K sp kv) {m c:Nat} {v:Value} (hg:kv.get [(m:Int),(c:Int)]=some v):∃ (n l:Nat) (b:Bool),v=svv n l b∧Z4O gs K sp m c n l b:=by
 unfold KV.get at hg
 obtain ⟨e,he,rfl⟩:=Option.map_eq_some_iff.1 hg
 obtain ⟨m',c',n,l,b,rfl,hb⟩:=h e (List.mem_of_find?_eq_some he)
 have hk:=List.find?_some he
 simp only [decide_eq_true_eq,List.cons.injEq,and_true] at hk
 obtain rfl:m'=m:=by omega
 obtain rfl:c'=c:=by omega
 exact ⟨n,l,b,rfl,hb⟩
theorem Memo.put {gs:List Gp} {K sp:Nat} {kv:KV} (h:Memo gs K sp kv) {m c n l:Nat} {b:Bool} (hb:Z4O gs K sp m c n l b):Memo gs K sp (kv.put [(m:Int),(c:Int)] (svv n l b)):=fun e he=>by
 rcases KV.put_mem he with rfl | h1
 · exact ⟨m,c,n,l,b,rfl,hb⟩
 · exact h e h1
def ZiV (r:Rc) (m c:Nat) (H:Z8) (R:Z4):Value→Z8→Z4→Prop:=fun v H' R'=>∃ (n l:Nat) (b:Bool) (kv':KV),v=svv n l b∧Z4O r.d.h.gaps r.K r.sp m c n l b∧Memo r.d.h.gaps r.K r.sp kv'∧H'=(r.mm,Z0q true kv')::H∧R'=R
theorem Zbp {a b:Nat} (ha:a<2 ^ 10) (hb:b<2 ^ 10):a|||b<2 ^ 10:=Nat.or_lt_two_pow ha hb
theorem Zeb {a n:Nat} (h:a<2 ^ n) (hn:n≤10):a<2 ^ 62:=Nat.lt_of_lt_of_le h (Nat.pow_le_pow_right (by decide) (by omega))
theorem Ze8 {gs:List Gp} {K sp:Nat} {H:Z8} {R:Z4} {kv:KV} (hme:Memo gs K sp kv) {m c n l mm:Nat} {b s:Bool} (hgd:(kv.get [(m:Int),(c:Int)]).getD (svv 0 0 false)=svv n l b) (hgs:(kv.get [(m:Int),(c:Int)]).isSome=s) [hM:Mem1 mm (Z0q true kv) H] :
   ∀ w,St H R w→Lkp Tryz.prog 320 (.map (some mm)) (mkv true [(m:Int),(c:Int)]) true (.tuple #[svv n l b,.bool s]) w:=fun w hw=>by
 have h:=Z1W (b:=true) (m:=mm) (H:=H) (R:=R) kv [(m:Int),(c:Int)] Z11 (KeyT.of Z0Y Z13) (Z0M Zkf) rfl hme.len true w hw
 rw [hgs] at h
 rw [← hgd]
 exact h
def ZiW (r:Rc) (q:Nat):Prop:=∀ (m c:Nat) (kv:KV) (H:Z8) (R:Z4) [hD:MemRows (some ⟨r.d.bd,0,none⟩) 4 [r.d.row] R] [hG:MemRows r.d.ag 2 (grows r.d.h.gaps) R] [hS:MemRows r.d.as_ 3 (srows r.d.h.sights) R] [sR:SubF r.d.R0 R] [hX:MemRows (some ⟨r.br,0,none⟩) 4 [r.row] R],m<2 ^ 7→c<2 ^ 10→128≤m+q→Memo r.d.h.gaps r.K r.sp kv→Fn Tryz.prog 216 [.pointer (some ⟨r.br,0,none⟩),.agg (plc m c).toArray] ((r.mm,Z0q true kv)::H) R (ZiV r m c H R)
set_option maxHeartbeats 1000000 in
theorem Z43 (r:Rc) (hd:r.d.Ok) (hK:r.K<2 ^ 7) (hsp:r.sp≤1000) (q:Nat) (ih:∀ q9,q=q9+1→ZiW r q9) :
    ZiW r q:=by
 intro m c kv H R hD hG hS sR hX hm hc hq hme
 refine Zc Tryz.func216 rfl Tryz.ntmps216 rfl ?_
 refine sqt 2 rfl (bx rfl rfl rfl (fun b3=>alc rfl Z4N rfl (fun b4=>Z0 (Z0 ?_))))
 refine Zd [0,1,3,7,0,31,63,127,127,0,767,2047] (tks 0 3 (.ld 3 (.ld 4 (.ld 5 (tks 6 3 (.big 9 (.big 10 (.tk 11 .done)))))))) Zt (by kernel_rfl) ?_
 have hok:=hd.ok
 have hgl:=hok.gl
 have hbn:=hok.bins
 have hw7:Wth r.d.h.gaps 7:=fun g hg=>by have:=hok.gaps g hg;omega
 have h27:(2:Nat) ^ 7=128:=rfl
 obtain ⟨q9,rfl⟩:∃ q9,q=q9+1:=⟨q-1,by omega⟩
 obtain ⟨n0,l0,lb0,s0,hgd,hgs,hb0⟩:∃ (n0 l0:Nat) (lb0 s0:Bool),(kv.get [(m:Int),(c:Int)]).getD (svv 0 0 false)=svv n0 l0 lb0∧(kv.get [(m:Int),(c:Int)]).isSome=s0∧(s0=true→Z4O r.d.h.gaps r.K r.sp m c n0 l0 lb0):=by
   cases hg9:kv.get [(m:Int),(c:Int)] with
   | none=>exact ⟨0,0,false,false,rfl,rfl,fun h=>by cases h⟩
   | some sv=>obtain ⟨n1,l1,b1,rfl,hb⟩:=hme.get hg9;exact ⟨n1,l1,b1,true,rfl,rfl,fun _=>hb⟩
 refine Zm 1 rfl (tk rfl (PE.nilCheck rfl) rfl (tk rfl (PE.fA Z0n rfl) rfl (ld rfl rfl (lfB (sz:=4) Z2p rfl) rfl (ld rfl rfl (lhA (plc m c) Z0W rfl rfl rfl) rfl ?_))))
 refine ldK rfl rfl rfl ((Ze8 hme hgd hgs)) rfl ?_
 refine Zm 3 rfl (alc rfl Z4N rfl (fun b5=>?_))
 refine bg (fun w hs=>⟨((Ze8 hme hgd hgs)) w hs,(lhA (plc m c) Z0W rfl rfl rfl) w hs,(lfB (sz:=4) Z2p rfl) w hs,trivial⟩) ?_
 refine ZB (l':=svl (n0) (l0) (lb0)) rfl rfl rfl Z0P rfl rfl rfl rfl (nl rfl) ?_
 refine bgT (Zm 1 rfl (sqt 1 rfl (pur 1 rfl ?_)))
 refine Z1 rfl ?_ ?_<;>intro hc0
 refine sqt 2 rfl (spL rfl rfl (lhA (svl (n0) (l0) (lb0)) ZO rfl rfl rfl) rfl ?_)
 refine ZB (l':=svl (n0) (l0) (lb0)) rfl rfl rfl Z0P rfl rfl rfl rfl (nl rfl) ?_
 refine Z5 ?_
 exact Zr (vs:=[_]) rfl (.cons (RV.cell rfl (lhA (svl (n0) (l0) (lb0)) ZO rfl rfl rfl)) .nil) rfl ⟨n0,l0,lb0,kv,rfl,hb0 hc0,hme,rfl,rfl⟩ (fun w h=>((h.del b5).del b4).del b3)
 clear hb0 hc0
 refine Z2 (sqt 3 rfl (sp rfl (PE.build (out:=[_,_,_]) Zbs Z4N rfl rfl) rfl (alc rfl Z4N rfl (fun b7=>?_))))
 refine ZB (l':=svl (11) (0) (true)) rfl rfl rfl Z0P rfl rfl rfl rfl (nl rfl) ?_
 refine sqt 4 rfl (pur 1 rfl (spL rfl rfl (lhA (plc m c) Z0W rfl rfl rfl) rfl ?_))
 refine clV rfl Zhx rfl rfl (Zcw r hd m c hm hc _ _) ?_
 refine pur 1 rfl (Z0 (sqt 2 rfl (pur 2 rfl (Z3 ?_))))
 refine Zb (ι:={x:Nat×Nat×Nat×Bool×KV // x.1&&&(Z0k r.d.h.gaps m c)=x.1∧BI r.d.h.gaps r.K r.sp m c x.1 x.2.1 x.2.2.1 x.2.2.2.1∧Memo r.d.h.gaps r.K r.sp x.2.2.2.2}) (fun x=>⟨[(0,.pointer (some ⟨r.br,0,none⟩)),(3,.pointer (some ⟨b3,0,none⟩)),(4,.pointer (some ⟨b4,0,none⟩)),(7,.pointer (some ⟨b7,0,none⟩)),(8,.int .i64 ((Z0k r.d.h.gaps m c):Nat)),(9,.int .i64 (x.1.1:Nat))],(b7,cel 326 (svl (x.1.2.1) (x.1.2.2.1) (x.1.2.2.2.1)))::(b4,cel 326 [.int .i64 0,.int .i64 0,.bool false])::(b3,cel 324 (plc m c))::(r.mm,Z0q true x.1.2.2.2.2)::H,R⟩) (fun x=>x.1.1) ⟨((Z0k r.d.h.gaps m c),11,0,true,kv),Nat.and_self _,BI.start _ _ _ _ _,hme⟩ ?_ (fun x=>?_)
 exact Ze (fun w h=>h.del b5)
 obtain ⟨⟨now,n,l,lost,kv1⟩,hsub,hbi,hme⟩:=x
 dsimp only at hsub hbi hme ⊢
 have hn11:=hbi.le
 have hnl:now<2 ^ r.d.h.gaps.length:=Nat.lt_of_le_of_lt (ZbJ hsub) (Z0a _ _ _)
 have hn10:now<2 ^ 10:=Nat.lt_of_lt_of_le hnl (Nat.pow_le_pow_right (by decide) hgl)
 have hc210:=Zbp hc hn10
 have hm2:(spr r.d.h.gaps (c|||now) m)<2 ^ 7:=Z8L r.d.h.gaps (c|||now) m▸ZbH hw7 hm _
 have hcn:=Z4a r.d.h.gaps.length now
 have hn9:now<1024:=hn10
 have hsu:∀ i,now.testBit i=true→(Z0k r.d.h.gaps m c).testBit i=true:=fun i hi=>by
   have h9:((Z0k r.d.h.gaps m c)&&&now).testBit i=true:=by rw [Nat.and_comm,hsub];exact hi
   rw [Nat.testBit_and,Bool.and_eq_true] at h9;exact h9.1
 refine Z0 (Z3 (sqt 4 rfl (pur 1 rfl ?_)))
 refine cl rfl ZdV rfl rfl (ZdE now hn10 _ _) ?_
 rintro _ _ _ ⟨o,rfl,rfl,rfl⟩
 obtain ⟨ao,co,heo,hfz⟩:=o.freeze
 rw [heo,irl,Z8s hnl hgl]
 refine Sy.heap (fun w h=>St.drop h) ?_
 clear hfz heo o
 refine sp rfl (PE.lenSl ZT rfl) rfl (pur 1 rfl (Z0 (Z0 ?_)))
 refine Zd [0,0,2,0,8,0,56,126,255,0,512,0,3584,8191,0,32767] (.tk 0 (.tk 1 (.ld 2 (.tk 3 (.ld 4 (tks 5 3 (.tk 9 (.ld 10 (.tk 11 (.tk 12 (.any (.alt 8 (.tk 13 (.big 14 (.big 15 .done))) (.alt 14 (.big 8 (.tk 13 (.big 15 .done))) .stop))))))))))))) Zt (by kernel_rfl) ?_
 refine Zm 1 rfl (tk rfl (PE.fA Z02 rfl) rfl (ld rfl rfl (lh sc3 rfl rfl) rfl (tk rfl (PE.fA Z3d rfl) rfl (ld rfl rfl (lh sc3 rfl rfl) rfl (Zm 1 rfl (tk rfl (PE.orN (m:=c) (n:=now) rfl rfl (Zeb hc (Nat.le_refl _)) (Zeb hn10 (Nat.le_refl _))) rfl (tk rfl (PE.build (out:=[_,_]) Z7w Z3L rfl rfl) rfl (tk rfl (PE.fA Z3d rfl) rfl (ld rfl rfl (lh sc3 rfl rfl) rfl (Zm 1 rfl (tk rfl (PE.orN (m:=c) (n:=now) rfl rfl (Zeb hc (Nat.le_refl _)) (Zeb hn10 (Nat.le_refl _))) rfl ?_)))))))))))
 refine ZI ?_ ?_
 refine clV rfl Z80 rfl rfl (Z3Q r hd m (c|||now) hm hc210 _ _) ?_
 refine bg (fun w hs=>⟨(lh sc3 rfl rfl) w hs,trivial,trivial,trivial⟩) ?_
 refine tk rfl (PE.build (out:=[_,_]) Z7w Z3L rfl rfl) rfl (alc rfl Z3L rfl (fun b11=>?_))
 refine bg (fun w hs=>⟨(lh sc3 rfl rfl) w hs,trivial⟩) ?_
 refine ZB (l':=plc (spr r.d.h.gaps (c|||now) m) (c|||now)) rfl rfl rfl Z7d rfl rfl rfl rfl (nl rfl) ?_
 refine bgT (Z0 ?_)
 refine Zd [0,0,2,6,14,31,63,127,127,383,1023,2047,4095,8191,16383,8191,40959,106495,237567,524287,1048575,2097151] (tks 0 4 (.ld 4 (tks 5 4 (.ld 9 (tks 10 4 (.ld 14 (tks 15 3 (.ld 18 (tks 19 3 .done))))))))) Zt (by kernel_rfl) ?_
 refine Zm 2 rfl (tk rfl (PE.nilCheck rfl) rfl (tk rfl (PE.fA ZaU rfl) rfl (ld rfl rfl (lfB (sz:=4) sc3 rfl) rfl (Zm 2 rfl ?_))))
 refine Zw 56 rfl ?_ ?_<;>intro g56
 try simp only [cS] at g56
 refine Zm 1 rfl ?_
 refine tkG rfl rfl rfl rfl (PE.fA Z1i rfl) rfl ?_
 refine ldG rfl rfl rfl rfl rfl (lh sc3 rfl rfl) rfl (Zm 3 rfl ?_)
 refine Zw 62 rfl ?_ ?_<;>intro g62
 try simp only [cS] at g62
 refine tkG rfl rfl rfl rfl (PE.fA Z02 rfl) rfl ?_
 refine ldG rfl rfl rfl rfl rfl (lh sc3 rfl rfl) rfl (Zm 1 rfl ?_)
 refine tkG rfl rfl rfl rfl (PE.nilCheck rfl) rfl ?_
 refine tkG rfl rfl rfl rfl (PE.fA ZaT rfl) rfl ?_
 refine ldG rfl rfl rfl rfl rfl (lfB (sz:=4) sc3 rfl) rfl ?_
 refine tkG rfl rfl rfl rfl (PE.andN (m:=(spr r.d.h.gaps (c|||now) m)) (n:=r.K) rfl rfl rfl (by omega) (by omega)) rfl ?_
 refine Zm 2 rfl ?_
 refine Z1 rfl ?_ ?_<;>intro hc1<;>try simp only [cS] at hc1
 have hk0:(spr r.d.h.gaps (c|||now) m)&&&r.K=0:=by omega
 refine Z0 (sqt 5 rfl (sp rfl (PE.fA Z02 rfl) rfl (spL rfl rfl (lh sc3 rfl rfl) rfl (sp rfl (PE.fA Z02 rfl) rfl (spL rfl rfl (lh sc3 rfl rfl) rfl (pur 1 rfl ?_))))))
 refine Z1 rfl ?_ ?_<;>intro hc2<;>try simp only [cS] at hc2
 have hne:(spr r.d.h.gaps (c|||now) m)≠m:=by omega
 have hgr:=Z3U hne
 refine sqt 5 rfl (pur 1 rfl ?_)
 refine ZH r.mm ?_
 refine spL rfl rfl (lhA (plc (spr r.d.h.gaps (c|||now) m) (c|||now)) Z0W rfl rfl rfl) rfl ?_
 refine cl rfl Z7Z rfl rfl (ih q9 rfl (spr r.d.h.gaps (c|||now) m) (c|||now) kv1 _ _ hm2 hc210 (by omega) hme) ?_
 rintro _ _ R1 ⟨n3,l3,lb3,kv3,rfl,hb3,hme3,rfl,hR1⟩
 obtain rfl:=hR1.symm
 clear hR1
 have hme:=hme3
 have hn3:n3≤11:=by rcases hb3 with ⟨_,p,_⟩ | ⟨_,p,_⟩<;>omega
 refine alc rfl Z4N rfl (fun b12=>?_)
 refine ZB (l':=svl (n3) (l3) (lb3)) rfl rfl rfl Z0P rfl rfl rfl rfl (nl rfl) ?_
 refine sqt 5 rfl (pur 1 rfl (sp rfl (PE.fA Z1i rfl) rfl (spL rfl rfl (lh sc3 rfl rfl) rfl (sp rfl (PE.add rfl rfl (by omega)) rfl ?_))))
 rw [show (((cnt r.d.h.gaps.length now):Nat):Int)+(n3:Int)=(((cnt r.d.h.gaps.length now)+n3:Nat):Int) from by omega]
 refine pur 1 rfl (sqt 2 rfl (sp rfl (PE.fA ZaV rfl) rfl (spL rfl rfl (lh sc4 rfl rfl) rfl ?_)))
 refine Z1 rfl ?_ ?_<;>intro hc3
 obtain rfl:lb3=true:=hc3
 have hnp:=(hb3.resolve_right (fun h=>by cases h.1)).2.2.2
 have hno:∀ n9,Cnd r.d.h.gaps r.K r.sp m c now n9→n≤n9:=fun n9 hcn=>by
   obtain ⟨p1,p2,p3,p4⟩:=hcn
   rcases p4 with ⟨p5,_⟩ | ⟨_,k,_,p6⟩
   · exact absurd p5 hne
   · exact absurd p6.1 (hnp k)
 refine sqr 1 rfl (pur 1 rfl (sqt 4 rfl (pur 1 rfl (sp rfl (PE.fA Z1i rfl) rfl (spL rfl rfl (lh sc3 rfl rfl) rfl (pur 1 rfl ?_))))))
 refine Z1 rfl ?_ ?_<;>intro hc4
 simp only [decide_eq_true_eq] at hc4
 omega
 refine Z2 (sqt 2 rfl (pur 2 rfl ?_))
 refine Z1 rfl ?_ ?_<;>intro hc5<;>try simp only [cS] at hc5
 have hz0:now=0:=by omega
 refine Z9 (Z05 (by decide) (Za (Za (Zh (Z0 ?_)))))
 refine Zd [0,1,3,7,0,0,63] (tks 0 3 (.ld 3 (.ld 4 (.ld 5 (.big 6 .done))))) Zt (by kernel_rfl) ?_
 refine Zm 1 rfl (tk rfl (PE.nilCheck rfl) rfl (tk rfl (PE.fA Z0n rfl) rfl (ld rfl rfl (lfB (sz:=4) Z2p rfl) rfl (ld rfl rfl (lhA (plc m c) Z0W rfl rfl rfl) rfl (ld rfl rfl (lhA (svl (n) (l) (lost)) ZO rfl rfl rfl) rfl ?_)))))
 refine mpu kv3 [(m:Int),(c:Int)] (v:=svv (n) (l) (lost)) rfl Z11 (KeyT.of Z0Y Z13) rfl rfl rfl rfl hme.len ?_
 refine bgT (sqt 2 rfl (spL rfl rfl (lhA (svl (n) (l) (lost)) ZO rfl rfl rfl) rfl ?_))
 refine ZB (l':=svl (n) (l) (lost)) rfl rfl rfl Z0P rfl rfl rfl rfl (nl rfl) ?_
 refine Z5 ?_
 have hfin:Z4O r.d.h.gaps r.K r.sp m c (n) (l) (lost):=by subst hz0;exact BI.endNo hgl hbi hno
 exact Zr (vs:=[_]) rfl (.cons (RV.cell rfl (lhA (svl (n) (l) (lost)) ZO rfl rfl rfl)) .nil) rfl ⟨_,_,_,_,rfl,hfin,hme.put hfin,rfl,rfl⟩ (fun w h=>((((((((h.del b12).del b11).pull b3).pull b4).pull b7)).del b7).del b4).del b3)
 have h0:now≠0:=by omega
 refine Z2 (sqr 5 rfl (pur 1 rfl (sp rfl (PE.sub rfl rfl (by omega)) rfl (pur 1 rfl ?_))))
 rw [show (now:Int)-1=((now-1:Nat):Int) from by omega]
 refine sp rfl (PE.andN (m:=now-1) (n:=(Z0k r.d.h.gaps m c)) rfl rfl rfl (by omega) (by have:=Z0a r.d.h.gaps m c;have:2 ^ r.d.h.gaps.length≤2 ^ 10:=Nat.pow_le_pow_right (by decide) hgl;have e9:(2:Nat) ^ 10=1024:=rfl;omega)) rfl (pur 1 rfl ?_)
 have hlt:(now-1)&&&(Z0k r.d.h.gaps m c)<now:=Nat.lt_of_le_of_lt Nat.and_le_left (by omega)
 exact ZF ⟨((now-1)&&&(Z0k r.d.h.gaps m c),n,l,lost,kv3),by dsimp only;rw [Nat.and_assoc,Nat.and_self],hbi.no hsub h0 hno,hme⟩ hlt (fun w h=>(((((h.del b12).del b11).pull b3).pull b4).pull b7))
 obtain rfl:lb3=false:=hc3
 have hlb:=(hb3.resolve_left (fun h=>by cases h.1)).2.2.1
 have htk:Cnd r.d.h.gaps r.K r.sp m c now ((cnt r.d.h.gaps.length now)+n3):=⟨hsu,by omega,hk0,.inr ⟨hne,n3,rfl,hlb⟩⟩
 refine Z2 (sqt 4 rfl (pur 1 rfl (sp rfl (PE.fA Z1i rfl) rfl (spL rfl rfl (lh sc3 rfl rfl) rfl (pur 1 rfl ?_)))))
 refine Z1 rfl ?_ ?_<;>intro hc4<;>try simp only [cS] at hc4
 have hlt9:(cnt r.d.h.gaps.length now)+n3<n:=by omega
 refine sqr 4 rfl (pur 2 rfl (sp rfl (PE.build (out:=[_,_,_]) Zbs Z4N rfl rfl) rfl ?_))
 refine ZB (l':=svl ((cnt r.d.h.gaps.length now)+n3) (now) (false)) rfl rfl rfl Z0P rfl rfl rfl rfl (nl rfl) ?_
 refine sqt 2 rfl (pur 2 rfl ?_)
 refine Z1 rfl ?_ ?_<;>intro hc5<;>try simp only [cS] at hc5
 have hz0:now=0:=by omega
 refine Z9 (Z05 (by decide) (Za (Za (Zh (Z0 ?_)))))
 refine Zd [0,1,3,7,0,0,63] (tks 0 3 (.ld 3 (.ld 4 (.ld 5 (.big 6 .done))))) Zt (by kernel_rfl) ?_
 refine Zm 1 rfl (tk rfl (PE.nilCheck rfl) rfl (tk rfl (PE.fA Z0n rfl) rfl (ld rfl rfl (lfB (sz:=4) Z2p rfl) rfl (ld rfl rfl (lhA (plc m c) Z0W rfl rfl rfl) rfl (ld rfl rfl (lhA (svl ((cnt r.d.h.gaps.length now)+n3) (now) (false)) ZO rfl rfl rfl) rfl ?_)))))
 refine mpu kv3 [(m:Int),(c:Int)] (v:=svv ((cnt r.d.h.gaps.length now)+n3) (now) (false)) rfl Z11 (KeyT.of Z0Y Z13) rfl rfl rfl rfl hme.len ?_
 refine bgT (sqt 2 rfl (spL rfl rfl (lhA (svl ((cnt r.d.h.gaps.length now)+n3) (now) (false)) ZO rfl rfl rfl) rfl ?_))
 refine ZB (l':=svl ((cnt r.d.h.gaps.length now)+n3) (now) (false)) rfl rfl rfl Z0P rfl rfl rfl rfl (nl rfl) ?_
 refine Z5 ?_
 have hfin:Z4O r.d.h.gaps r.K r.sp m c ((cnt r.d.h.gaps.length now)+n3) (now) (false):=by subst hz0;exact BI.endTake hgl hbi htk hlt9
 exact Zr (vs:=[_]) rfl (.cons (RV.cell rfl (lhA (svl ((cnt r.d.h.gaps.length now)+n3) (now) (false)) ZO rfl rfl rfl)) .nil) rfl ⟨_,_,_,_,rfl,hfin,hme.put hfin,rfl,rfl⟩ (fun w h=>((((((((h.del b12).del b11).pull b3).pull b4).pull b7)).del b7).del b4).del b3)
 have h0:now≠0:=by omega
 refine Z2 (sqr 5 rfl (pur 1 rfl (sp rfl (PE.sub rfl rfl (by omega)) rfl (pur 1 rfl ?_))))
 rw [show (now:Int)-1=((now-1:Nat):Int) from by omega]
 refine sp rfl (PE.andN (m:=now-1) (n:=(Z0k r.d.h.gaps m c)) rfl rfl rfl (by omega) (by have:=Z0a r.d.h.gaps m c;have:2 ^ r.d.h.gaps.length≤2 ^ 10:=Nat.pow_le_pow_right (by decide) hgl;have e9:(2:Nat) ^ 10=1024:=rfl;omega)) rfl (pur 1 rfl ?_)
 have hlt:(now-1)&&&(Z0k r.d.h.gaps m c)<now:=Nat.lt_of_le_of_lt Nat.and_le_left (by omega)
 exact ZF ⟨((now-1)&&&(Z0k r.d.h.gaps m c),(cnt r.d.h.gaps.length now)+n3,now,false,kv3),by dsimp only;rw [Nat.and_assoc,Nat.and_self],hbi.take hsub h0 htk hlt9,hme⟩ hlt (fun w h=>(((((h.del b12).del b11).pull b3).pull b4).pull b7))
 have hno:∀ n9,Cnd r.d.h.gaps r.K r.sp m c now n9→n≤n9:=fun n9 hcn=>by rw [hcn.unique htk];omega
 refine Z2 (sqt 2 rfl (pur 2 rfl ?_))
 refine Z1 rfl ?_ ?_<;>intro hc5<;>try simp only [cS] at hc5
 have hz0:now=0:=by omega
 refine Z9 (Z05 (by decide) (Za (Za (Zh (Z0 ?_)))))
 refine Zd [0,1,3,7,0,0,63] (tks 0 3 (.ld 3 (.ld 4 (.ld 5 (.big 6 .done))))) Zt (by kernel_rfl) ?_
 refine Zm 1 rfl (tk rfl (PE.nilCheck rfl) rfl (tk rfl (PE.fA Z0n rfl) rfl (ld rfl rfl (lfB (sz:=4) Z2p rfl) rfl (ld rfl rfl (lhA (plc m c) Z0W rfl rfl rfl) rfl (ld rfl rfl (lhA (svl (n) (l) (lost)) ZO rfl rfl rfl) rfl ?_)))))
 refine mpu kv3 [(m:Int),(c:Int)] (v:=svv (n) (l) (lost)) rfl Z11 (KeyT.of Z0Y Z13) rfl rfl rfl rfl hme.len ?_
 refine bgT (sqt 2 rfl (spL rfl rfl (lhA (svl (n) (l) (lost)) ZO rfl rfl rfl) rfl ?_))
 refine ZB (l':=svl (n) (l) (lost)) rfl rfl rfl Z0P rfl rfl rfl rfl (nl rfl) ?_
 refine Z5 ?_
 have hfin:Z4O r.d.h.gaps r.K r.sp m c (n) (l) (lost):=by subst hz0;exact BI.endNo hgl hbi hno
 exact Zr (vs:=[_]) rfl (.cons (RV.cell rfl (lhA (svl (n) (l) (lost)) ZO rfl rfl rfl)) .nil) rfl ⟨_,_,_,_,rfl,hfin,hme.put hfin,rfl,rfl⟩ (fun w h=>((((((((h.del b12).del b11).pull b3).pull b4).pull b7)).del b7).del b4).del b3)
 have h0:now≠0:=by omega
 refine Z2 (sqr 5 rfl (pur 1 rfl (sp rfl (PE.sub rfl rfl (by omega)) rfl (pur 1 rfl ?_))))
 rw [show (now:Int)-1=((now-1:Nat):Int) from by omega]
 refine sp rfl (PE.andN (m:=now-1) (n:=(Z0k r.d.h.gaps m c)) rfl rfl rfl (by omega) (by have:=Z0a r.d.h.gaps m c;have:2 ^ r.d.h.gaps.length≤2 ^ 10:=Nat.pow_le_pow_right (by decide) hgl;have e9:(2:Nat) ^ 10=1024:=rfl;omega)) rfl (pur 1 rfl ?_)
 have hlt:(now-1)&&&(Z0k r.d.h.gaps m c)<now:=Nat.lt_of_le_of_lt Nat.and_le_left (by omega)
 exact ZF ⟨((now-1)&&&(Z0k r.d.h.gaps m c),n,l,lost,kv3),by dsimp only;rw [Nat.and_assoc,Nat.and_self],hbi.no hsub h0 hno,hme⟩ hlt (fun w h=>(((((h.del b12).del b11).pull b3).pull b4).pull b7))
 have heq:(spr r.d.h.gaps (c|||now) m)=m:=by omega
 have htk:Cnd r.d.h.gaps r.K r.sp m c now (cnt r.d.h.gaps.length now):=⟨hsu,by omega,hk0,.inl ⟨heq,rfl⟩⟩
 have hlt9:(cnt r.d.h.gaps.length now)<n:=by omega
 refine Z2 (sqt 4 rfl (pur 1 rfl (sp rfl (PE.fA Z1i rfl) rfl (spL rfl rfl (lh sc3 rfl rfl) rfl (pur 1 rfl ?_)))))
 refine Z1 rfl ?_ ?_<;>intro hc4
 refine sqr 4 rfl (pur 2 rfl (sp rfl (PE.build (out:=[_,_,_]) Zbs Z4N rfl rfl) rfl ?_))
 refine ZB (l':=svl ((cnt r.d.h.gaps.length now)) (now) (false)) rfl rfl rfl Z0P rfl rfl rfl rfl (nl rfl) ?_
 refine sqt 2 rfl (pur 2 rfl ?_)
 refine Z1 rfl ?_ ?_<;>intro hc5<;>try simp only [cS] at hc5
 have hz0:now=0:=by omega
 refine Z9 (Z05 (by decide) (Za (Za (Zh (Z0 ?_)))))
 refine Zd [0,1,3,7,0,0,63] (tks 0 3 (.ld 3 (.ld 4 (.ld 5 (.big 6 .done))))) Zt (by kernel_rfl) ?_
 refine Zm 1 rfl (tk rfl (PE.nilCheck rfl) rfl (tk rfl (PE.fA Z0n rfl) rfl (ld rfl rfl (lfB (sz:=4) Z2p rfl) rfl (ld rfl rfl (lhA (plc m c) Z0W rfl rfl rfl) rfl (ld rfl rfl (lhA (svl ((cnt r.d.h.gaps.length now)) (now) (false)) ZO rfl rfl rfl) rfl ?_)))))
 refine mpu kv1 [(m:Int),(c:Int)] (v:=svv ((cnt r.d.h.gaps.length now)) (now) (false)) rfl Z11 (KeyT.of Z0Y Z13) rfl rfl rfl rfl hme.len ?_
 refine bgT (sqt 2 rfl (spL rfl rfl (lhA (svl ((cnt r.d.h.gaps.length now)) (now) (false)) ZO rfl rfl rfl) rfl ?_))
 refine ZB (l':=svl ((cnt r.d.h.gaps.length now)) (now) (false)) rfl rfl rfl Z0P rfl rfl rfl rfl (nl rfl) ?_
 refine Z5 ?_
 have hfin:Z4O r.d.h.gaps r.K r.sp m c ((cnt r.d.h.gaps.length now)) (now) (false):=by subst hz0;exact BI.endTake hgl hbi htk hlt9
 exact Zr (vs:=[_]) rfl (.cons (RV.cell rfl (lhA (svl ((cnt r.d.h.gaps.length now)) (now) (false)) ZO rfl rfl rfl)) .nil) rfl ⟨_,_,_,_,rfl,hfin,hme.put hfin,rfl,rfl⟩ (fun w h=>(((h.del b11).del b7).del b4).del b3)
 have h0:now≠0:=by omega
 refine Z2 (sqr 5 rfl (pur 1 rfl (sp rfl (PE.sub rfl rfl (by omega)) rfl (pur 1 rfl ?_))))
 rw [show (now:Int)-1=((now-1:Nat):Int) from by omega]
 refine sp rfl (PE.andN (m:=now-1) (n:=(Z0k r.d.h.gaps m c)) rfl rfl rfl (by omega) (by have:=Z0a r.d.h.gaps m c;have:2 ^ r.d.h.gaps.length≤2 ^ 10:=Nat.pow_le_pow_right (by decide) hgl;have e9:(2:Nat) ^ 10=1024:=rfl;omega)) rfl (pur 1 rfl ?_)
 have hlt:(now-1)&&&(Z0k r.d.h.gaps m c)<now:=Nat.lt_of_le_of_lt Nat.and_le_left (by omega)
 exact ZF ⟨((now-1)&&&(Z0k r.d.h.gaps m c),(cnt r.d.h.gaps.length now),now,false,kv1),by dsimp only;rw [Nat.and_assoc,Nat.and_self],hbi.take hsub h0 htk hlt9,hme⟩ hlt (fun w h=>h.del b11)
 exact absurd hc4 (by simp;omega)
 have hno:∀ n9,Cnd r.d.h.gaps r.K r.sp m c now n9→n≤n9:=fun n9 hcn=>by
   obtain ⟨p1,p2,p3,p4⟩:=hcn
   exact absurd p3 (by omega)
 refine Z2 (sqt 2 rfl (pur 2 rfl ?_))
 refine Z1 rfl ?_ ?_<;>intro hc5<;>try simp only [cS] at hc5
 have hz0:now=0:=by omega
 refine Z9 (Z05 (by decide) (Za (Za (Zh (Z0 ?_)))))
 refine Zd [0,1,3,7,0,0,63] (tks 0 3 (.ld 3 (.ld 4 (.ld 5 (.big 6 .done))))) Zt (by kernel_rfl) ?_
 refine Zm 1 rfl (tk rfl (PE.nilCheck rfl) rfl (tk rfl (PE.fA Z0n rfl) rfl (ld rfl rfl (lfB (sz:=4) Z2p rfl) rfl (ld rfl rfl (lhA (plc m c) Z0W rfl rfl rfl) rfl (ld rfl rfl (lhA (svl (n) (l) (lost)) ZO rfl rfl rfl) rfl ?_)))))
 refine mpu kv1 [(m:Int),(c:Int)] (v:=svv (n) (l) (lost)) rfl Z11 (KeyT.of Z0Y Z13) rfl rfl rfl rfl hme.len ?_
 refine bgT (sqt 2 rfl (spL rfl rfl (lhA (svl (n) (l) (lost)) ZO rfl rfl rfl) rfl ?_))
 refine ZB (l':=svl (n) (l) (lost)) rfl rfl rfl Z0P rfl rfl rfl rfl (nl rfl) ?_
 refine Z5 ?_
 have hfin:Z4O r.d.h.gaps r.K r.sp m c (n) (l) (lost):=by subst hz0;exact BI.endNo hgl hbi hno
 exact Zr (vs:=[_]) rfl (.cons (RV.cell rfl (lhA (svl (n) (l) (lost)) ZO rfl rfl rfl)) .nil) rfl ⟨_,_,_,_,rfl,hfin,hme.put hfin,rfl,rfl⟩ (fun w h=>(((h.del b11).del b7).del b4).del b3)
 have h0:now≠0:=by omega
 refine Z2 (sqr 5 rfl (pur 1 rfl (sp rfl (PE.sub rfl rfl (by omega)) rfl (pur 1 rfl ?_))))
 rw [show (now:Int)-1=((now-1:Nat):Int) from by omega]
 refine sp rfl (PE.andN (m:=now-1) (n:=(Z0k r.d.h.gaps m c)) rfl rfl rfl (by omega) (by have:=Z0a r.d.h.gaps m c;have:2 ^ r.d.h.gaps.length≤2 ^ 10:=Nat.pow_le_pow_right (by decide) hgl;have e9:(2:Nat) ^ 10=1024:=rfl;omega)) rfl (pur 1 rfl ?_)
 have hlt:(now-1)&&&(Z0k r.d.h.gaps m c)<now:=Nat.lt_of_le_of_lt Nat.and_le_left (by omega)
 exact ZF ⟨((now-1)&&&(Z0k r.d.h.gaps m c),n,l,lost,kv1),by dsimp only;rw [Nat.and_assoc,Nat.and_self],hbi.no hsub h0 hno,hme⟩ hlt (fun w h=>h.del b11)
 try simp only [cS] at g62
 have hno:∀ n9,Cnd r.d.h.gaps r.K r.sp m c now n9→n≤n9:=fun n9 hcn=>by
   obtain ⟨p1,p2,p3,p4⟩:=hcn
   rcases p4 with ⟨_,p5⟩ | ⟨_,k,p5,_⟩<;>omega
 refine Zm 1 rfl ?_
 refine ldN rfl rfl rfl rfl rfl rfl rfl rfl ?_
 refine Zm 3 rfl ?_
 refine ldN rfl rfl rfl rfl rfl rfl rfl rfl ?_
 refine Zm 3 rfl ?_
 refine ZG rfl ?_
 refine Z2 (sqt 2 rfl (pur 2 rfl ?_))
 refine Z1 rfl ?_ ?_<;>intro hc5<;>try simp only [cS] at hc5
 have hz0:now=0:=by omega
 refine Z9 (Z05 (by decide) (Za (Za (Zh (Z0 ?_)))))
 refine Zd [0,1,3,7,0,0,63] (tks 0 3 (.ld 3 (.ld 4 (.ld 5 (.big 6 .done))))) Zt (by kernel_rfl) ?_
 refine Zm 1 rfl (tk rfl (PE.nilCheck rfl) rfl (tk rfl (PE.fA Z0n rfl) rfl (ld rfl rfl (lfB (sz:=4) Z2p rfl) rfl (ld rfl rfl (lhA (plc m c) Z0W rfl rfl rfl) rfl (ld rfl rfl (lhA (svl (n) (l) (lost)) ZO rfl rfl rfl) rfl ?_)))))
 refine mpu kv1 [(m:Int),(c:Int)] (v:=svv (n) (l) (lost)) rfl Z11 (KeyT.of Z0Y Z13) rfl rfl rfl rfl hme.len ?_
 refine bgT (sqt 2 rfl (spL rfl rfl (lhA (svl (n) (l) (lost)) ZO rfl rfl rfl) rfl ?_))
 refine ZB (l':=svl (n) (l) (lost)) rfl rfl rfl Z0P rfl rfl rfl rfl (nl rfl) ?_
 refine Z5 ?_
 have hfin:Z4O r.d.h.gaps r.K r.sp m c (n) (l) (lost):=by subst hz0;exact BI.endNo hgl hbi hno
 exact Zr (vs:=[_]) rfl (.cons (RV.cell rfl (lhA (svl (n) (l) (lost)) ZO rfl rfl rfl)) .nil) rfl ⟨_,_,_,_,rfl,hfin,hme.put hfin,rfl,rfl⟩ (fun w h=>(((h.del b11).del b7).del b4).del b3)
 have h0:now≠0:=by omega
 refine Z2 (sqr 5 rfl (pur 1 rfl (sp rfl (PE.sub rfl rfl (by omega)) rfl (pur 1 rfl ?_))))
 rw [show (now:Int)-1=((now-1:Nat):Int) from by omega]
 refine sp rfl (PE.andN (m:=now-1) (n:=(Z0k r.d.h.gaps m c)) rfl rfl rfl (by omega) (by have:=Z0a r.d.h.gaps m c;have:2 ^ r.d.h.gaps.length≤2 ^ 10:=Nat.pow_le_pow_right (by decide) hgl;have e9:(2:Nat) ^ 10=1024:=rfl;omega)) rfl (pur 1 rfl ?_)
 have hlt:(now-1)&&&(Z0k r.d.h.gaps m c)<now:=Nat.lt_of_le_of_lt Nat.and_le_left (by omega)
 exact ZF ⟨((now-1)&&&(Z0k r.d.h.gaps m c),n,l,lost,kv1),by dsimp only;rw [Nat.and_assoc,Nat.and_self],hbi.no hsub h0 hno,hme⟩ hlt (fun w h=>h.del b11)
 try simp only [cS] at g56
 have hno:∀ n9,Cnd r.d.h.gaps r.K r.sp m c now n9→n≤n9:=fun n9 hcn=>by
   obtain ⟨p1,p2,p3,p4⟩:=hcn
   omega
 refine Zm 2 rfl ?_
 refine ldN rfl rfl rfl rfl rfl rfl rfl rfl ?_
 refine Zm 4 rfl ?_
 refine ldN rfl rfl rfl rfl rfl rfl rfl rfl ?_
 refine Zm 3 rfl ?_
 refine ldN rfl rfl rfl rfl rfl rfl rfl rfl ?_
 refine Zm 3 rfl ?_
 refine ZG rfl ?_
 refine Z2 (sqt 2 rfl (pur 2 rfl ?_))
 refine Z1 rfl ?_ ?_<;>intro hc5<;>try simp only [cS] at hc5
 have hz0:now=0:=by omega
 refine Z9 (Z05 (by decide) (Za (Za (Zh (Z0 ?_)))))
 refine Zd [0,1,3,7,0,0,63] (tks 0 3 (.ld 3 (.ld 4 (.ld 5 (.big 6 .done))))) Zt (by kernel_rfl) ?_
 refine Zm 1 rfl (tk rfl (PE.nilCheck rfl) rfl (tk rfl (PE.fA Z0n rfl) rfl (ld rfl rfl (lfB (sz:=4) Z2p rfl) rfl (ld rfl rfl (lhA (plc m c) Z0W rfl rfl rfl) rfl (ld rfl rfl (lhA (svl (n) (l) (lost)) ZO rfl rfl rfl) rfl ?_)))))
 refine mpu kv1 [(m:Int),(c:Int)] (v:=svv (n) (l) (lost)) rfl Z11 (KeyT.of Z0Y Z13) rfl rfl rfl rfl hme.len ?_
 refine bgT (sqt 2 rfl (spL rfl rfl (lhA (svl (n) (l) (lost)) ZO rfl rfl rfl) rfl ?_))
 refine ZB (l':=svl (n) (l) (lost)) rfl rfl rfl Z0P rfl rfl rfl rfl (nl rfl) ?_
 refine Z5 ?_
 have hfin:Z4O r.d.h.gaps r.K r.sp m c (n) (l) (lost):=by subst hz0;exact BI.endNo hgl hbi hno
 exact Zr (vs:=[_]) rfl (.cons (RV.cell rfl (lhA (svl (n) (l) (lost)) ZO rfl rfl rfl)) .nil) rfl ⟨_,_,_,_,rfl,hfin,hme.put hfin,rfl,rfl⟩ (fun w h=>(((h.del b11).del b7).del b4).del b3)
 have h0:now≠0:=by omega
 refine Z2 (sqr 5 rfl (pur 1 rfl (sp rfl (PE.sub rfl rfl (by omega)) rfl (pur 1 rfl ?_))))
 rw [show (now:Int)-1=((now-1:Nat):Int) from by omega]
 refine sp rfl (PE.andN (m:=now-1) (n:=(Z0k r.d.h.gaps m c)) rfl rfl rfl (by omega) (by have:=Z0a r.d.h.gaps m c;have:2 ^ r.d.h.gaps.length≤2 ^ 10:=Nat.pow_le_pow_right (by decide) hgl;have e9:(2:Nat) ^ 10=1024:=rfl;omega)) rfl (pur 1 rfl ?_)
 have hlt:(now-1)&&&(Z0k r.d.h.gaps m c)<now:=Nat.lt_of_le_of_lt Nat.and_le_left (by omega)
 exact ZF ⟨((now-1)&&&(Z0k r.d.h.gaps m c),n,l,lost,kv1),by dsimp only;rw [Nat.and_assoc,Nat.and_self],hbi.no hsub h0 hno,hme⟩ hlt (fun w h=>h.del b11)
 refine ZI ?_ ?_
 refine alc rfl Z3L rfl (fun b11=>?_)
 refine bg (fun w hs=>⟨(lh sc3 rfl rfl) w hs,(lh sc3 rfl rfl) w hs,(lh sc3 rfl rfl) w hs,trivial⟩) ?_
 refine clV rfl Z80 rfl rfl (Z3Q r hd m (c|||now) hm hc210 _ _) ?_
 refine bg (fun w hs=>⟨(lh sc3 rfl rfl) w hs,trivial,trivial,trivial⟩) ?_
 refine tk rfl (PE.build (out:=[_,_]) Z7w Z3L rfl rfl) rfl ?_
 refine ZB (l':=plc (spr r.d.h.gaps (c|||now) m) (c|||now)) rfl rfl rfl Z7d rfl rfl rfl rfl (nl rfl) ?_
 refine bgT (Z0 ?_)
 refine Zd [0,0,2,6,14,31,63,127,127,383,1023,2047,4095,8191,16383,8191,40959,106495,237567,524287,1048575,2097151] (tks 0 4 (.ld 4 (tks 5 4 (.ld 9 (tks 10 4 (.ld 14 (tks 15 3 (.ld 18 (tks 19 3 .done))))))))) Zt (by kernel_rfl) ?_
 refine Zm 2 rfl (tk rfl (PE.nilCheck rfl) rfl (tk rfl (PE.fA ZaU rfl) rfl (ld rfl rfl (lfB (sz:=4) sc3 rfl) rfl (Zm 2 rfl ?_))))
 refine Zw 56 rfl ?_ ?_<;>intro g56
 try simp only [cS] at g56
 refine Zm 1 rfl ?_
 refine tkG rfl rfl rfl rfl (PE.fA Z1i rfl) rfl ?_
 refine ldG rfl rfl rfl rfl rfl (lh sc3 rfl rfl) rfl (Zm 3 rfl ?_)
 refine Zw 62 rfl ?_ ?_<;>intro g62
 try simp only [cS] at g62
 refine tkG rfl rfl rfl rfl (PE.fA Z02 rfl) rfl ?_
 refine ldG rfl rfl rfl rfl rfl (lh sc3 rfl rfl) rfl (Zm 1 rfl ?_)
 refine tkG rfl rfl rfl rfl (PE.nilCheck rfl) rfl ?_
 refine tkG rfl rfl rfl rfl (PE.fA ZaT rfl) rfl ?_
 refine ldG rfl rfl rfl rfl rfl (lfB (sz:=4) sc3 rfl) rfl ?_
 refine tkG rfl rfl rfl rfl (PE.andN (m:=(spr r.d.h.gaps (c|||now) m)) (n:=r.K) rfl rfl rfl (by omega) (by omega)) rfl ?_
 refine Zm 2 rfl ?_
 refine Z1 rfl ?_ ?_<;>intro hc1<;>try simp only [cS] at hc1
 have hk0:(spr r.d.h.gaps (c|||now) m)&&&r.K=0:=by omega
 refine Z0 (sqt 5 rfl (sp rfl (PE.fA Z02 rfl) rfl (spL rfl rfl (lh sc3 rfl rfl) rfl (sp rfl (PE.fA Z02 rfl) rfl (spL rfl rfl (lh sc3 rfl rfl) rfl (pur 1 rfl ?_))))))
 refine Z1 rfl ?_ ?_<;>intro hc2<;>try simp only [cS] at hc2
 have hne:(spr r.d.h.gaps (c|||now) m)≠m:=by omega
 have hgr:=Z3U hne
 refine sqt 5 rfl (pur 1 rfl ?_)
 refine ZH r.mm ?_
 refine spL rfl rfl (lhA (plc (spr r.d.h.gaps (c|||now) m) (c|||now)) Z0W rfl rfl rfl) rfl ?_
 refine cl rfl Z7Z rfl rfl (ih q9 rfl (spr r.d.h.gaps (c|||now) m) (c|||now) kv1 _ _ hm2 hc210 (by omega) hme) ?_
 rintro _ _ R1 ⟨n3,l3,lb3,kv3,rfl,hb3,hme3,rfl,hR1⟩
 obtain rfl:=hR1.symm
 clear hR1
 have hme:=hme3
 have hn3:n3≤11:=by rcases hb3 with ⟨_,p,_⟩ | ⟨_,p,_⟩<;>omega
 refine alc rfl Z4N rfl (fun b12=>?_)
 refine ZB (l':=svl (n3) (l3) (lb3)) rfl rfl rfl Z0P rfl rfl rfl rfl (nl rfl) ?_
 refine sqt 5 rfl (pur 1 rfl (sp rfl (PE.fA Z1i rfl) rfl (spL rfl rfl (lh sc3 rfl rfl) rfl (sp rfl (PE.add rfl rfl (by omega)) rfl ?_))))
 rw [show (((cnt r.d.h.gaps.length now):Nat):Int)+(n3:Int)=(((cnt r.d.h.gaps.length now)+n3:Nat):Int) from by omega]
 refine pur 1 rfl (sqt 2 rfl (sp rfl (PE.fA ZaV rfl) rfl (spL rfl rfl (lh sc4 rfl rfl) rfl ?_)))
 refine Z1 rfl ?_ ?_<;>intro hc3
 obtain rfl:lb3=true:=hc3
 have hnp:=(hb3.resolve_right (fun h=>by cases h.1)).2.2.2
 have hno:∀ n9,Cnd r.d.h.gaps r.K r.sp m c now n9→n≤n9:=fun n9 hcn=>by
   obtain ⟨p1,p2,p3,p4⟩:=hcn
   rcases p4 with ⟨p5,_⟩ | ⟨_,k,_,p6⟩
   · exact absurd p5 hne
   · exact absurd p6.1 (hnp k)
 refine sqr 1 rfl (pur 1 rfl (sqt 4 rfl (pur 1 rfl (sp rfl (PE.fA Z1i rfl) rfl (spL rfl rfl (lh sc3 rfl rfl) rfl (pur 1 rfl ?_))))))
 refine Z1 rfl ?_ ?_<;>intro hc4
 simp only [decide_eq_true_eq] at hc4
 omega
 refine Z2 (sqt 2 rfl (pur 2 rfl ?_))
 refine Z1 rfl ?_ ?_<;>intro hc5<;>try simp only [cS] at hc5
 have hz0:now=0:=by omega
 refine Z9 (Z05 (by decide) (Za (Za (Zh (Z0 ?_)))))
 refine Zd [0,1,3,7,0,0,63] (tks 0 3 (.ld 3 (.ld 4 (.ld 5 (.big 6 .done))))) Zt (by kernel_rfl) ?_
 refine Zm 1 rfl (tk rfl (PE.nilCheck rfl) rfl (tk rfl (PE.fA Z0n rfl) rfl (ld rfl rfl (lfB (sz:=4) Z2p rfl) rfl (ld rfl rfl (lhA (plc m c) Z0W rfl rfl rfl) rfl (ld rfl rfl (lhA (svl (n) (l) (lost)) ZO rfl rfl rfl) rfl ?_)))))
 refine mpu kv3 [(m:Int),(c:Int)] (v:=svv (n) (l) (lost)) rfl Z11 (KeyT.of Z0Y Z13) rfl rfl rfl rfl hme.len ?_
 refine bgT (sqt 2 rfl (spL rfl rfl (lhA (svl (n) (l) (lost)) ZO rfl rfl rfl) rfl ?_))
 refine ZB (l':=svl (n) (l) (lost)) rfl rfl rfl Z0P rfl rfl rfl rfl (nl rfl) ?_
 refine Z5 ?_
 have hfin:Z4O r.d.h.gaps r.K r.sp m c (n) (l) (lost):=by subst hz0;exact BI.endNo hgl hbi hno
 exact Zr (vs:=[_]) rfl (.cons (RV.cell rfl (lhA (svl (n) (l) (lost)) ZO rfl rfl rfl)) .nil) rfl ⟨_,_,_,_,rfl,hfin,hme.put hfin,rfl,rfl⟩ (fun w h=>((((((((h.del b12).del b11).pull b3).pull b4).pull b7)).del b7).del b4).del b3)
 have h0:now≠0:=by omega
 refine Z2 (sqr 5 rfl (pur 1 rfl (sp rfl (PE.sub rfl rfl (by omega)) rfl (pur 1 rfl ?_))))
 rw [show (now:Int)-1=((now-1:Nat):Int) from by omega]
 refine sp rfl (PE.andN (m:=now-1) (n:=(Z0k r.d.h.gaps m c)) rfl rfl rfl (by omega) (by have:=Z0a r.d.h.gaps m c;have:2 ^ r.d.h.gaps.length≤2 ^ 10:=Nat.pow_le_pow_right (by decide) hgl;have e9:(2:Nat) ^ 10=1024:=rfl;omega)) rfl (pur 1 rfl ?_)
 have hlt:(now-1)&&&(Z0k r.d.h.gaps m c)<now:=Nat.lt_of_le_of_lt Nat.and_le_left (by omega)
 exact ZF ⟨((now-1)&&&(Z0k r.d.h.gaps m c),n,l,lost,kv3),by dsimp only;rw [Nat.and_assoc,Nat.and_self],hbi.no hsub h0 hno,hme⟩ hlt (fun w h=>(((((h.del b12).del b11).pull b3).pull b4).pull b7))
 obtain rfl:lb3=false:=hc3
 have hlb:=(hb3.resolve_left (fun h=>by cases h.1)).2.2.1
 have htk:Cnd r.d.h.gaps r.K r.sp m c now ((cnt r.d.h.gaps.length now)+n3):=⟨hsu,by omega,hk0,.inr ⟨hne,n3,rfl,hlb⟩⟩
 refine Z2 (sqt 4 rfl (pur 1 rfl (sp rfl (PE.fA Z1i rfl) rfl (spL rfl rfl (lh sc3 rfl rfl) rfl (pur 1 rfl ?_)))))
 refine Z1 rfl ?_ ?_<;>intro hc4<;>try simp only [cS] at hc4
 have hlt9:(cnt r.d.h.gaps.length now)+n3<n:=by omega
 refine sqr 4 rfl (pur 2 rfl (sp rfl (PE.build (out:=[_,_,_]) Zbs Z4N rfl rfl) rfl ?_))
 refine ZB (l':=svl ((cnt r.d.h.gaps.length now)+n3) (now) (false)) rfl rfl rfl Z0P rfl rfl rfl rfl (nl rfl) ?_
 refine sqt 2 rfl (pur 2 rfl ?_)
 refine Z1 rfl ?_ ?_<;>intro hc5<;>try simp only [cS] at hc5
 have hz0:now=0:=by omega
 refine Z9 (Z05 (by decide) (Za (Za (Zh (Z0 ?_)))))
 refine Zd [0,1,3,7,0,0,63] (tks 0 3 (.ld 3 (.ld 4 (.ld 5 (.big 6 .done))))) Zt (by kernel_rfl) ?_
 refine Zm 1 rfl (tk rfl (PE.nilCheck rfl) rfl (tk rfl (PE.fA Z0n rfl) rfl (ld rfl rfl (lfB (sz:=4) Z2p rfl) rfl (ld rfl rfl (lhA (plc m c) Z0W rfl rfl rfl) rfl (ld rfl rfl (lhA (svl ((cnt r.d.h.gaps.length now)+n3) (now) (false)) ZO rfl rfl rfl) rfl ?_)))))
 refine mpu kv3 [(m:Int),(c:Int)] (v:=svv ((cnt r.d.h.gaps.length now)+n3) (now) (false)) rfl Z11 (KeyT.of Z0Y Z13) rfl rfl rfl rfl hme.len ?_
 refine bgT (sqt 2 rfl (spL rfl rfl (lhA (svl ((cnt r.d.h.gaps.length now)+n3) (now) (false)) ZO rfl rfl rfl) rfl ?_))
 refine ZB (l':=svl ((cnt r.d.h.gaps.length now)+n3) (now) (false)) rfl rfl rfl Z0P rfl rfl rfl rfl (nl rfl) ?_
 refine Z5 ?_
 have hfin:Z4O r.d.h.gaps r.K r.sp m c ((cnt r.d.h.gaps.length now)+n3) (now) (false):=by subst hz0;exact BI.endTake hgl hbi htk hlt9
 exact Zr (vs:=[_]) rfl (.cons (RV.cell rfl (lhA (svl ((cnt r.d.h.gaps.length now)+n3) (now) (false)) ZO rfl rfl rfl)) .nil) rfl ⟨_,_,_,_,rfl,hfin,hme.put hfin,rfl,rfl⟩ (fun w h=>((((((((h.del b12).del b11).pull b3).pull b4).pull b7)).del b7).del b4).del b3)
 have h0:now≠0:=by omega
 refine Z2 (sqr 5 rfl (pur 1 rfl (sp rfl (PE.sub rfl rfl (by omega)) rfl (pur 1 rfl ?_))))
 rw [show (now:Int)-1=((now-1:Nat):Int) from by omega]
 refine sp rfl (PE.andN (m:=now-1) (n:=(Z0k r.d.h.gaps m c)) rfl rfl rfl (by omega) (by have:=Z0a r.d.h.gaps m c;have:2 ^ r.d.h.gaps.length≤2 ^ 10:=Nat.pow_le_pow_right (by decide) hgl;have e9:(2:Nat) ^ 10=1024:=rfl;omega)) rfl (pur 1 rfl ?_)
 have hlt:(now-1)&&&(Z0k r.d.h.gaps m c)<now:=Nat.lt_of_le_of_lt Nat.and_le_left (by omega)
 exact ZF ⟨((now-1)&&&(Z0k r.d.h.gaps m c),(cnt r.d.h.gaps.length now)+n3,now,false,kv3),by dsimp only;rw [Nat.and_assoc,Nat.and_self],hbi.take hsub h0 htk hlt9,hme⟩ hlt (fun w h=>(((((h.del b12).del b11).pull b3).pull b4).pull b7))
 have hno:∀ n9,Cnd r.d.h.gaps r.K r.sp m c now n9→n≤n9:=fun n9 hcn=>by rw [hcn.unique htk];omega
 refine Z2 (sqt 2 rfl (pur 2 rfl ?_))
 refine Z1 rfl ?_ ?_<;>intro hc5<;>try simp only [cS] at hc5
 have hz0:now=0:=by omega
 refine Z9 (Z05 (by decide) (Za (Za (Zh (Z0 ?_)))))
 refine Zd [0,1,3,7,0,0,63] (tks 0 3 (.ld 3 (.ld 4 (.ld 5 (.big 6 .done))))) Zt (by kernel_rfl) ?_
 refine Zm 1 rfl (tk rfl (PE.nilCheck rfl) rfl (tk rfl (PE.fA Z0n rfl) rfl (ld rfl rfl (lfB (sz:=4) Z2p rfl) rfl (ld rfl rfl (lhA (plc m c) Z0W rfl rfl rfl) rfl (ld rfl rfl (lhA (svl (n) (l) (lost)) ZO rfl rfl rfl) rfl ?_)))))
 refine mpu kv3 [(m:Int),(c:Int)] (v:=svv (n) (l) (lost)) rfl Z11 (KeyT.of Z0Y Z13) rfl rfl rfl rfl hme.len ?_
 refine bgT (sqt 2 rfl (spL rfl rfl (lhA (svl (n) (l) (lost)) ZO rfl rfl rfl) rfl ?_))
 refine ZB (l':=svl (n) (l) (lost)) rfl rfl rfl Z0P rfl rfl rfl rfl (nl rfl) ?_
 refine Z5 ?_
 have hfin:Z4O r.d.h.gaps r.K r.sp m c (n) (l) (lost):=by subst hz0;exact BI.endNo hgl hbi hno
 exact Zr (vs:=[_]) rfl (.cons (RV.cell rfl (lhA (svl (n) (l) (lost)) ZO rfl rfl rfl)) .nil) rfl ⟨_,_,_,_,rfl,hfin,hme.put hfin,rfl,rfl⟩ (fun w h=>((((((((h.del b12).del b11).pull b3).pull b4).pull b7)).del b7).del b4).del b3)
 have h0:now≠0:=by omega
 refine Z2 (sqr 5 rfl (pur 1 rfl (sp rfl (PE.sub rfl rfl (by omega)) rfl (pur 1 rfl ?_))))
 rw [show (now:Int)-1=((now-1:Nat):Int) from by omega]
 refine sp rfl (PE.andN (m:=now-1) (n:=(Z0k r.d.h.gaps m c)) rfl rfl rfl (by omega) (by have:=Z0a r.d.h.gaps m c;have:2 ^ r.d.h.gaps.length≤2 ^ 10:=Nat.pow_le_pow_right (by decide) hgl;have e9:(2:Nat) ^ 10=1024:=rfl;omega)) rfl (pur 1 rfl ?_)
 have hlt:(now-1)&&&(Z0k r.d.h.gaps m c)<now:=Nat.lt_of_le_of_lt Nat.and_le_left (by omega)
 exact ZF ⟨((now-1)&&&(Z0k r.d.h.gaps m c),n,l,lost,kv3),by dsimp only;rw [Nat.and_assoc,Nat.and_self],hbi.no hsub h0 hno,hme⟩ hlt (fun w h=>(((((h.del b12).del b11).pull b3).pull b4).pull b7))
 have heq:(spr r.d.h.gaps (c|||now) m)=m:=by omega
 have htk:Cnd r.d.h.gaps r.K r.sp m c now (cnt r.d.h.gaps.length now):=⟨hsu,by omega,hk0,.inl ⟨heq,rfl⟩⟩
 have hlt9:(cnt r.d.h.gaps.length now)<n:=by omega
 refine Z2 (sqt 4 rfl (pur 1 rfl (sp rfl (PE.fA Z1i rfl) rfl (spL rfl rfl (lh sc3 rfl rfl) rfl (pur 1 rfl ?_)))))
 refine Z1 rfl ?_ ?_<;>intro hc4
 refine sqr 4 rfl (pur 2 rfl (sp rfl (PE.build (out:=[_,_,_]) Zbs Z4N rfl rfl) rfl ?_))
 refine ZB (l':=svl ((cnt r.d.h.gaps.length now)) (now) (false)) rfl rfl rfl Z0P rfl rfl rfl rfl (nl rfl) ?_
 refine sqt 2 rfl (pur 2 rfl ?_)
 refine Z1 rfl ?_ ?_<;>intro hc5<;>try simp only [cS] at hc5
 have hz0:now=0:=by omega
 refine Z9 (Z05 (by decide) (Za (Za (Zh (Z0 ?_)))))
 refine Zd [0,1,3,7,0,0,63] (tks 0 3 (.ld 3 (.ld 4 (.ld 5 (.big 6 .done))))) Zt (by kernel_rfl) ?_
 refine Zm 1 rfl (tk rfl (PE.nilCheck rfl) rfl (tk rfl (PE.fA Z0n rfl) rfl (ld rfl rfl (lfB (sz:=4) Z2p rfl) rfl (ld rfl rfl (lhA (plc m c) Z0W rfl rfl rfl) rfl (ld rfl rfl (lhA (svl ((cnt r.d.h.gaps.length now)) (now) (false)) ZO rfl rfl rfl) rfl ?_)))))
 refine mpu kv1 [(m:Int),(c:Int)] (v:=svv ((cnt r.d.h.gaps.length now)) (now) (false)) rfl Z11 (KeyT.of Z0Y Z13) rfl rfl rfl rfl hme.len ?_
 refine bgT (sqt 2 rfl (spL rfl rfl (lhA (svl ((cnt r.d.h.gaps.length now)) (now) (false)) ZO rfl rfl rfl) rfl ?_))
 refine ZB (l':=svl ((cnt r.d.h.gaps.length now)) (now) (false)) rfl rfl rfl Z0P rfl rfl rfl rfl (nl rfl) ?_
 refine Z5 ?_
 have hfin:Z4O r.d.h.gaps r.K r.sp m c ((cnt r.d.h.gaps.length now)) (now) (false):=by subst hz0;exact BI.endTake hgl hbi htk hlt9
 exact Zr (vs:=[_]) rfl (.cons (RV.cell rfl (lhA (svl ((cnt r.d.h.gaps.length now)) (now) (false)) ZO rfl rfl rfl)) .nil) rfl ⟨_,_,_,_,rfl,hfin,hme.put hfin,rfl,rfl⟩ (fun w h=>(((h.del b11).del b7).del b4).del b3)
 have h0:now≠0:=by omega
 refine Z2 (sqr 5 rfl (pur 1 rfl (sp rfl (PE.sub rfl rfl (by omega)) rfl (pur 1 rfl ?_))))
 rw [show (now:Int)-1=((now-1:Nat):Int) from by omega]
 refine sp rfl (PE.andN (m:=now-1) (n:=(Z0k r.d.h.gaps m c)) rfl rfl rfl (by omega) (by have:=Z0a r.d.h.gaps m c;have:2 ^ r.d.h.gaps.length≤2 ^ 10:=Nat.pow_le_pow_right (by decide) hgl;have e9:(2:Nat) ^ 10=1024:=rfl;omega)) rfl (pur 1 rfl ?_)
 have hlt:(now-1)&&&(Z0k r.d.h.gaps m c)<now:=Nat.lt_of_le_of_lt Nat.and_le_left (by omega)
 exact ZF ⟨((now-1)&&&(Z0k r.d.h.gaps m c),(cnt r.d.h.gaps.length now),now,false,kv1),by dsimp only;rw [Nat.and_assoc,Nat.and_self],hbi.take hsub h0 htk hlt9,hme⟩ hlt (fun w h=>h.del b11)
 exact absurd hc4 (by simp;omega)
 have hno:∀ n9,Cnd r.d.h.gaps r.K r.sp m c now n9→n≤n9:=fun n9 hcn=>by
   obtain ⟨p1,p2,p3,p4⟩:=hcn
   exact absurd p3 (by omega)
 refine Z2 (sqt 2 rfl (pur 2 rfl ?_))
 refine Z1 rfl ?_ ?_<;>intro hc5<;>try simp only [cS] at hc5
 have hz0:now=0:=by omega
 refine Z9 (Z05 (by decide) (Za (Za (Zh (Z0 ?_)))))
 refine Zd [0,1,3,7,0,0,63] (tks 0 3 (.ld 3 (.ld 4 (.ld 5 (.big 6 .done))))) Zt (by kernel_rfl) ?_
 refine Zm 1 rfl (tk rfl (PE.nilCheck rfl) rfl (tk rfl (PE.fA Z0n rfl) rfl (ld rfl rfl (lfB (sz:=4) Z2p rfl) rfl (ld rfl rfl (lhA (plc m c) Z0W rfl rfl rfl) rfl (ld rfl rfl (lhA (svl (n) (l) (lost)) ZO rfl rfl rfl) rfl ?_)))))
 refine mpu kv1 [(m:Int),(c:Int)] (v:=svv (n) (l) (lost)) rfl Z11 (KeyT.of Z0Y Z13) rfl rfl rfl rfl hme.len ?_
 refine bgT (sqt 2 rfl (spL rfl rfl (lhA (svl (n) (l) (lost)) ZO rfl rfl rfl) rfl ?_))
 refine ZB (l':=svl (n) (l) (lost)) rfl rfl rfl Z0P rfl rfl rfl rfl (nl rfl) ?_
 refine Z5 ?_
 have hfin:Z4O r.d.h.gaps r.K r.sp m c (n) (l) (lost):=by subst hz0;exact BI.endNo hgl hbi hno
 exact Zr (vs:=[_]) rfl (.cons (RV.cell rfl (lhA (svl (n) (l) (lost)) ZO rfl rfl rfl)) .nil) rfl ⟨_,_,_,_,rfl,hfin,hme.put hfin,rfl,rfl⟩ (fun w h=>(((h.del b11).del b7).del b4).del b3)
 have h0:now≠0:=by omega
 refine Z2 (sqr 5 rfl (pur 1 rfl (sp rfl (PE.sub rfl rfl (by omega)) rfl (pur 1 rfl ?_))))
 rw [show (now:Int)-1=((now-1:Nat):Int) from by omega]
 refine sp rfl (PE.andN (m:=now-1) (n:=(Z0k r.d.h.gaps m c)) rfl rfl rfl (by omega) (by have:=Z0a r.d.h.gaps m c;have:2 ^ r.d.h.gaps.length≤2 ^ 10:=Nat.pow_le_pow_right (by decide) hgl;have e9:(2:Nat) ^ 10=1024:=rfl;omega)) rfl (pur 1 rfl ?_)
 have hlt:(now-1)&&&(Z0k r.d.h.gaps m c)<now:=Nat.lt_of_le_of_lt Nat.and_le_left (by omega)
 exact ZF ⟨((now-1)&&&(Z0k r.d.h.gaps m c),n,l,lost,kv1),by dsimp only;rw [Nat.and_assoc,Nat.and_self],hbi.no hsub h0 hno,hme⟩ hlt (fun w h=>h.del b11)
 try simp only [cS] at g62
 have hno:∀ n9,Cnd r.d.h.gaps r.K r.sp m c now n9→n≤n9:=fun n9 hcn=>by
   obtain ⟨p1,p2,p3,p4⟩:=hcn
   rcases p4 with ⟨_,p5⟩ | ⟨_,k,p5,_⟩<;>omega
 refine Zm 1 rfl ?_
 refine ldN rfl rfl rfl rfl rfl rfl rfl rfl ?_
 refine Zm 3 rfl ?_
 refine ldN rfl rfl rfl rfl rfl rfl rfl rfl ?_
 refine Zm 3 rfl ?_
 refine ZG rfl ?_
 refine Z2 (sqt 2 rfl (pur 2 rfl ?_))
 refine Z1 rfl ?_ ?_<;>intro hc5<;>try simp only [cS] at hc5
 have hz0:now=0:=by omega
 refine Z9 (Z05 (by decide) (Za (Za (Zh (Z0 ?_)))))
 refine Zd [0,1,3,7,0,0,63] (tks 0 3 (.ld 3 (.ld 4 (.ld 5 (.big 6 .done))))) Zt (by kernel_rfl) ?_
 refine Zm 1 rfl (tk rfl (PE.nilCheck rfl) rfl (tk rfl (PE.fA Z0n rfl) rfl (ld rfl rfl (lfB (sz:=4) Z2p rfl) rfl (ld rfl rfl (lhA (plc m c) Z0W rfl rfl rfl) rfl (ld rfl rfl (lhA (svl (n) (l) (lost)) ZO rfl rfl rfl) rfl ?_)))))
 refine mpu kv1 [(m:Int),(c:Int)] (v:=svv (n) (l) (lost)) rfl Z11 (KeyT.of Z0Y Z13) rfl rfl rfl rfl hme.len ?_
 refine bgT (sqt 2 rfl (spL rfl rfl (lhA (svl (n) (l) (lost)) ZO rfl rfl rfl) rfl ?_))
 refine ZB (l':=svl (n) (l) (lost)) rfl rfl rfl Z0P rfl rfl rfl rfl (nl rfl) ?_
 refine Z5 ?_
 have hfin:Z4O r.d.h.gaps r.K r.sp m c (n) (l) (lost):=by subst hz0;exact BI.endNo hgl hbi hno
 exact Zr (vs:=[_]) rfl (.cons (RV.cell rfl (lhA (svl (n) (l) (lost)) ZO rfl rfl rfl)) .nil) rfl ⟨_,_,_,_,rfl,hfin,hme.put hfin,rfl,rfl⟩ (fun w h=>(((h.del b11).del b7).del b4).del b3)
 have h0:now≠0:=by omega
 refine Z2 (sqr 5 rfl (pur 1 rfl (sp rfl (PE.sub rfl rfl (by omega)) rfl (pur 1 rfl ?_))))
 rw [show (now:Int)-1=((now-1:Nat):Int) from by omega]
 refine sp rfl (PE.andN (m:=now-1) (n:=(Z0k r.d.h.gaps m c)) rfl rfl rfl (by omega) (by have:=Z0a r.d.h.gaps m c;have:2 ^ r.d.h.gaps.length≤2 ^ 10:=Nat.pow_le_pow_right (by decide) hgl;have e9:(2:Nat) ^ 10=1024:=rfl;omega)) rfl (pur 1 rfl ?_)
 have hlt:(now-1)&&&(Z0k r.d.h.gaps m c)<now:=Nat.lt_of_le_of_lt Nat.and_le_left (by omega)
 exact ZF ⟨((now-1)&&&(Z0k r.d.h.gaps m c),n,l,lost,kv1),by dsimp only;rw [Nat.and_assoc,Nat.and_self],hbi.no hsub h0 hno,hme⟩ hlt (fun w h=>h.del b11)
 try simp only [cS] at g56
 have hno:∀ n9,Cnd r.d.h.gaps r.K r.sp m c now n9→n≤n9:=fun n9 hcn=>by
   obtain ⟨p1,p2,p3,p4⟩:=hcn
   omega
 refine Zm 2 rfl ?_
 refine ldN rfl rfl rfl rfl rfl rfl rfl rfl ?_
 refine Zm 4 rfl ?_
 refine ldN rfl rfl rfl rfl rfl rfl rfl rfl ?_
 refine Zm 3 rfl ?_
 refine ldN rfl rfl rfl rfl rfl rfl rfl rfl ?_
 refine Zm 3 rfl ?_
 refine ZG rfl ?_
 refine Z2 (sqt 2 rfl (pur 2 rfl ?_))
 refine Z1 rfl ?_ ?_<;>intro hc5<;>try simp only [cS] at hc5
 have hz0:now=0:=by omega
 refine Z9 (Z05 (by decide) (Za (Za (Zh (Z0 ?_)))))
 refine Zd [0,1,3,7,0,0,63] (tks 0 3 (.ld 3 (.ld 4 (.ld 5 (.big 6 .done))))) Zt (by kernel_rfl) ?_
 refine Zm 1 rfl (tk rfl (PE.nilCheck rfl) rfl (tk rfl (PE.fA Z0n rfl) rfl (ld rfl rfl (lfB (sz:=4) Z2p rfl) rfl (ld rfl rfl (lhA (plc m c) Z0W rfl rfl rfl) rfl (ld rfl rfl (lhA (svl (n) (l) (lost)) ZO rfl rfl rfl) rfl ?_)))))
 refine mpu kv1 [(m:Int),(c:Int)] (v:=svv (n) (l) (lost)) rfl Z11 (KeyT.of Z0Y Z13) rfl rfl rfl rfl hme.len ?_
 refine bgT (sqt 2 rfl (spL rfl rfl (lhA (svl (n) (l) (lost)) ZO rfl rfl rfl) rfl ?_))
 refine ZB (l':=svl (n) (l) (lost)) rfl rfl rfl Z0P rfl rfl rfl rfl (nl rfl) ?_
 refine Z5 ?_
 have hfin:Z4O r.d.h.gaps r.K r.sp m c (n) (l) (lost):=by subst hz0;exact BI.endNo hgl hbi hno
 exact Zr (vs:=[_]) rfl (.cons (RV.cell rfl (lhA (svl (n) (l) (lost)) ZO rfl rfl rfl)) .nil) rfl ⟨_,_,_,_,rfl,hfin,hme.put hfin,rfl,rfl⟩ (fun w h=>(((h.del b11).del b7).del b4).del b3)
 have h0:now≠0:=by omega
 refine Z2 (sqr 5 rfl (pur 1 rfl (sp rfl (PE.sub rfl rfl (by omega)) rfl (pur 1 rfl ?_))))
 rw [show (now:Int)-1=((now-1:Nat):Int) from by omega]
 refine sp rfl (PE.andN (m:=now-1) (n:=(Z0k r.d.h.gaps m c)) rfl rfl rfl (by omega) (by have:=Z0a r.d.h.gaps m c;have:2 ^ r.d.h.gaps.length≤2 ^ 10:=Nat.pow_le_pow_right (by decide) hgl;have e9:(2:Nat) ^ 10=1024:=rfl;omega)) rfl (pur 1 rfl ?_)
 have hlt:(now-1)&&&(Z0k r.d.h.gaps m c)<now:=Nat.lt_of_le_of_lt Nat.and_le_left (by omega)
 exact ZF ⟨((now-1)&&&(Z0k r.d.h.gaps m c),n,l,lost,kv1),by dsimp only;rw [Nat.and_assoc,Nat.and_self],hbi.no hsub h0 hno,hme⟩ hlt (fun w h=>h.del b11)
 exact Z0f
theorem Z50 (r:Rc) (hd:r.d.Ok) (hK:r.K<2 ^ 7) (hsp:r.sp≤1000):∀ q,ZiW r q
 | 0=>Z43 r hd hK hsp 0 (fun _ h=>by cases h)
 | q + 1 => Z43 r hd hK hsp (q + 1) (fun q9 h => by
     obtain rfl:q=q9:=Nat.succ.inj h
     exact Z50 r hd hK hsp q)
theorem ZdU:cal Tryz.prog 215=true:=by kernel_rfl
theorem Zhg:cal Tryz.prog 222=true:=by kernel_rfl
theorem ZjO:Z00 Tryz.prog 322=some [(0,1),(1,1),(2,1),(3,1)]:=by kernel_rfl
theorem Zke:ZD Tryz.prog 322=some ([.pointer none,.int .i64 0,.int .i64 0,.map none]):=by kernel_rfl
def Hse.rcE (h:Hse) (fr to_:List Int) (sp:Int):Int:=bif decide (h.botE fr to_≠0) then h.botE fr to_ else bif !inB sp 0 10 then 3 else 0
abbrev rcD (h:Hse) (ag as_:Option Addr) (cg cs:Nat) (to_:List Int) (sp:Int) (bd br mm:Nat):Rc:=⟨dkA h ag as_ cg cs bd,br,msk to_,sp.toNat,mm⟩
def Z6o (gs:List Gp) (cl:Nat) (q:Nat) (b:Int):Option Int:=match gs[q]? with
 | some g=>bif !cl.testBit q&&(decide (g.a=b)||decide (g.b=b)) then some (g.a+g.b-b) else none
 | none=>none
theorem ZhX {gs:List Gp} {cl q:Nat} {b:Int} {g:Gp} (h:gs[q]?=some g) (hc:cl.testBit q=false) (hb:g.a=b∨g.b=b):Z6o gs cl q b=some (g.a+g.b-b):=by
 unfold Z6o;rw [h];dsimp only;rw [hc]
 rcases hb with h1 | h1
 · rw [decide_eq_true h1];rfl
 · rw [decide_eq_true h1,Bool.or_true];rfl
theorem Zfc {gs:List Gp} {cl q:Nat} {b:Int} {g:Gp} (h:gs[q]?=some g) (hn:cl.testBit q=true∨(g.a≠b∧g.b≠b)):Z6o gs cl q b=none:=by
 unfold Z6o;rw [h];dsimp only
 rcases hn with h1 | ⟨h1,h2⟩
 · rw [h1];rfl
 · rw [decide_eq_false h1,decide_eq_false h2];simp
def Z2F (gs:List Gp) (cl:Nat) (fr:List Int) (p:List Int):List Int:=p.foldl (fun here q=>here.filterMap (Z6o gs cl q.toNat)) fr
def Zc6 (gs:List Gp) (cl:Nat) (fr to_ p:List Int):Bool:=decide (0<p.length)&&(Z2F gs cl fr p).any (Z5A to_)
theorem Z4I (gs:List Gp) (cl:Nat) (fr p:List Int) (q:Int):Z2F gs cl fr (p++[q])=(Z2F gs cl fr p).filterMap (Z6o gs cl q.toNat):=by unfold Z2F;rw [List.foldl_append];rfl
theorem Zdr (gs:List Gp) (cl:Nat) (fr:List Int):∀ p,(Z2F gs cl fr p).length≤fr.length:=fun p=>by
 have key:∀ n (p:List Int),p.length=n→(Z2F gs cl fr p).length≤fr.length:=fun n=>by
   induction n with
   | zero=>intro p hp;rw [List.length_eq_zero_iff.1 hp];exact Nat.le_refl _
   | succ n ih =>
     intro p hp
     have h0:p≠[]:=fun e=>by rw [e] at hp;cases hp
     rw [← List.dropLast_concat_getLast h0,Z4I]
     exact Nat.le_trans (List.length_filterMap_le _ _) (ih _ (by rw [List.length_dropLast];omega))
 exact key _ p rfl
def nxP (gs:List Gp) (cl q:Nat) (b:Int) (i:Nat):List Int:=bif decide (q<i) then (Z6o gs cl q b).toList else []
theorem Zd8 (gs:List Gp) (cl q:Nat) (b:Int):nxP gs cl q b 0=[]:=rfl
theorem Zia {gs:List Gp} {cl q:Nat} {b x:Int} (h:Z6o gs cl q b=some x):nxP gs cl q b q=[]∧nxP gs cl q b (q+1)=[x]:=by
 unfold nxP;rw [decide_eq_false (Nat.lt_irrefl q),decide_eq_true (Nat.lt_succ_self q),h];exact ⟨rfl,rfl⟩
theorem Zbm {gs:List Gp} {cl q i:Nat} {b:Int} (h:q=i→Z6o gs cl q b=none):nxP gs cl q b (i+1)=nxP gs cl q b i:=by
 unfold nxP
 rcases Nat.lt_trichotomy q i with h1 | h1 | h1
 · rw [decide_eq_true h1,decide_eq_true (show q<i+1 by omega)]
 · rw [h h1];cases decide (q<i+1)<;>cases decide (q<i)<;>rfl
 · rw [decide_eq_false (show ¬ q<i by omega),decide_eq_false (show ¬ q<i+1 by omega)]
theorem Zfx {gs:List Gp} {cl q:Nat} {b:Int}:nxP gs cl q b gs.length=(Z6o gs cl q b).toList:=by
 unfold nxP
 by_cases h:q<gs.length
 · rw [decide_eq_true h];rfl
 · rw [decide_eq_false h]
   unfold Z6o
   rw [List.getElem?_eq_none (by omega)];rfl
theorem Zff {f:Int→Option Int} {l:List Int} {k:Nat} {b:Int} (h:l[k]?=some b):(l.take (k+1)).filterMap f=(l.take k).filterMap f++(f b).toList:=by
 rw [List.take_add_one,h,List.filterMap_append]
 cases hf:f b<;>simp [hf]
set_option maxHeartbeats 400000 in
theorem ZeW (h:Hse) (ag as_:Option Addr) (cg cs:Nat) (hlg:h.gaps.length≤9223372036854775807) (hls:h.sights.length≤9223372036854775807) (fr to_:List Int) (af at_:Option Addr) (cf ct:Nat) (hlf:fr.length≤1000000) (hlt:to_.length≤1000000) (hfc:fr.length≤cf) (htc:to_.length≤ct) (spd:Int) (H:Z8) (R:Z4) [hG:MemRows ag 2 (grows h.gaps) R] [hS:MemRows as_ 3 (srows h.sights) R] [hF:MemRows af 1 (Z6 fr) R] [hT:MemRows at_ 1 (Z6 to_) R] :
    Fn Tryz.prog 214 [h.v (h.sg ag cg) (h.ss as_ cs),.slice af fr.length cf,.slice at_ to_.length ct,.int .i64 spd] H R (fun v H' R'=>(h.rcE fr to_ spd≠0∧v = .tuple #[.pointer none,.int .i64 (h.rcE fr to_ spd)]∧H'=H∧R'=R)∨(h.rcE fr to_ spd=0∧∃ bd br mm,v = .tuple #[.pointer (some ⟨br,0,none⟩),.int .i64 0]∧H'=(mm,Z0q true [])::H∧R'=RowsA (some ⟨br,0,none⟩) 4 [(rcD h ag as_ cg cs to_ spd bd br mm).row]::RowsA (some ⟨bd,0,none⟩) 4 [(dkA h ag as_ cg cs bd).row]::R)):=by
 refine Zc Tryz.func214 rfl Tryz.ntmps214 rfl ?_
 refine sqt 3 rfl (bx rfl rfl rfl (fun b4=>pur 2 rfl (Z0 (sqt 5 rfl (spL rfl rfl (lhA (htl h (h.sg ag cg) (h.ss as_ cs)) Z2m rfl rfl rfl) rfl (pur 2 rfl ?_))))))
 refine clV rfl ZcA rfl rfl (Z7U h ag as_ cg cs hlg hls fr to_ af at_ cf ct (by omega) (by omega) hfc htc _ _) ?_
 refine pur 1 rfl (sqt 2 rfl (pur 2 rfl ?_))
 refine Z1 rfl ?_ ?_<;>intro hc0
 have hbe:h.botE fr to_≠0:=of_decide_eq_true hc0
 have e:h.rcE fr to_ spd=h.botE fr to_:=by unfold Hse.rcE;rw [dT hbe];rfl
 refine sqt 3 rfl (pur 3 rfl (Z5 ?_))
 exact rtB rfl rfl rfl rfl (.inl ⟨by rw [e];exact hbe,by rw [e]<;>rfl,rfl,rfl⟩) (fun w h9=>h9.del b4)
 have hbe:h.botE fr to_=0:=Classical.byContradiction fun e=>by rw [decide_eq_true e] at hc0;cases hc0
 have hb:=Z4Z hbe
 obtain ⟨q1,q2,q3,q4,q5,q6⟩:=Z1O hb
 refine Z2 (Z0 (sqt 3 rfl (pur 1 rfl ?_)))
 refine clV rfl Z53 rfl rfl (ZdD _ _ _ _ _) ?_
 refine pur 1 rfl ?_
 refine Z1 rfl ?_ ?_<;>intro hc1
 have hin:(!inB spd 0 10)=true:=hc1
 have e:h.rcE fr to_ spd=3:=by unfold Hse.rcE;rw [hbe,hin];rfl
 refine sqt 2 rfl (pur 2 rfl (Z5 ?_))
 exact rtB rfl rfl rfl rfl (.inl ⟨by rw [e];decide,by rw [e]<;>rfl,rfl,rfl⟩) (fun w h9=>h9.del b4)
 have hin:(!inB spd 0 10)=false:=hc1
 have e:h.rcE fr to_ spd=0:=by unfold Hse.rcE;rw [hbe,hin];rfl
 have hsp:0≤spd∧spd≤10:=by simpa [inB] using hin
 refine Z2 (sqt 10 rfl (spL rfl rfl (lhA (htl h (h.sg ag cg) (h.ss as_ cs)) Z2m rfl rfl rfl) rfl ?_))
 refine cl rfl Z94 rfl rfl (Z92 h ag as_ cg cs _ _) ?_
 rintro _ _ _ ⟨bd,rfl,rfl,rfl⟩
 refine pur 1 rfl ?_
 refine clV rfl ZdU rfl rfl (Zgu to_ (fun k hk=>by have:=q2 k hk;omega) hlt at_ ct _ _) ?_
 refine pur 1 rfl ?_
 refine mkm rfl rfl true (fun mm=>?_)
 refine sp rfl (PE.build (out:=[_,_,_,_]) ZjO Zke rfl rfl) rfl (bx rfl rfl rfl (fun b28=>pur 2 rfl (Z5 ?_)))
 refine Sy.heap (fun w h9=>St.rows (sz:=4) (rows:=[(rcD h ag as_ cg cs to_ spd bd b28 mm).row]) (rest:=[]) (by have h8:=h9.pull b28;show St ((b28,cel _ [.pointer (some ⟨bd,0,none⟩),.int .i64 ((msk to_:Nat):Int),.int .i64 ((spd.toNat:Nat):Int),.map (some mm)])::_) _ w;rw [show ((spd.toNat:Nat):Int)=spd by omega];exact h8) (by simp [Rc.row])) ?_
 exact rtB rfl rfl rfl rfl (.inr ⟨e,bd,b28,mm,rfl,rfl,rfl⟩) (fun w h9=>h9.del b4)
theorem Zcr (k:List Int) (ak:Option Addr) (ck bk:Nat) (hk:k.length≤9223372036854775807) (x:Int) (H:Z8) (R:Z4) [hK:MemRows ak 1 (Z6 k) R] [hM:Mem1 bk (cel 23 [.slice ak k.length ck]) H] :
    FnV Tryz.prog 222 [.int .i64 x,.pointer (some ⟨bk,0,none⟩)] H R (.bool (Z5A k x)):=by
 refine Zc Tryz.func222 rfl Tryz.ntmps222 rfl ?_
 refine sqt 1 rfl (pur 1 rfl (sqt 4 rfl (spL rfl rfl (lh Z0x rfl rfl) rfl (pur 1 rfl ?_))))
 refine clV rfl Zai rfl rfl (Z0g k ak ck x hk _ _) ?_
 refine pur 1 rfl (Z5 ?_)
 exact rtA rfl rfl rfl ⟨rfl,rfl,rfl⟩ drp
set_option maxHeartbeats 1000000 in
theorem ZeR (d:Dk) (hd:d.Ok) (fr to_ p:List Int) (af at_ ap:Option Addr) (cf ct cp:Nat) (hfr:∀ x∈fr,0≤x∧x<7) (hfl:fr.length≤1000) (hnt:to_.length≤1000000) (hp:∀ x∈p,0≤x) (hpl:p.length≤1000000) (H:Z8) (R:Z4) [hD:MemRows (some ⟨d.bd,0,none⟩) 4 [d.row] R] [hG:MemRows d.ag 2 (grows d.h.gaps) R] [hS:MemRows d.as_ 3 (srows d.h.sights) R] [sR:SubF d.R0 R] [hF:MemRows af 1 (Z6 fr) R] [hT:MemRows at_ 1 (Z6 to_) R] [hP:MemRows ap 1 (Z6 p) R] :
    Fn Tryz.prog 144 [.pointer (some ⟨d.bd,0,none⟩),.slice af fr.length cf,.slice at_ to_.length ct,.slice ap p.length cp] H R (fun v H' R'=>v = .bool (Zc6 d.h.gaps d.cl fr to_ p)∧H'=H∧R'=R):=by
 refine Z8e Tryz.func144 rfl Tryz.ntmps144 rfl ?_
 refine sqt 2 rfl (bx rfl rfl rfl (fun b6=>pur 1 rfl (sqt 2 rfl (pur 2 rfl (Z0 (sqt 3 rfl (pur 1 rfl (sp rfl (PE.lenSl ZT rfl) rfl (pur 1 rfl (Z3 ?_))))))))))
 have hok:=hd.ok
 have hbn:=hok.bins
 have hw7:∀ q,∀ x∈Z2F d.h.gaps d.cl fr q,0≤x∧x<7:=by
   have key:∀ n (q:List Int),q.length=n→∀ x∈Z2F d.h.gaps d.cl fr q,0≤x∧x<7:=fun n=>by
     induction n with
     | zero=>intro q hq x hx;rw [List.length_eq_zero_iff.1 hq] at hx;exact hfr x hx
     | succ n ih =>
       intro q hq x hx
       have h0:q≠[]:=fun e=>by rw [e] at hq;cases hq
       rw [← List.dropLast_concat_getLast h0,Z4I] at hx
       obtain ⟨y,hy,hf⟩:=List.mem_filterMap.1 hx
       have hy7:=ih _ (by rw [List.length_dropLast];omega) y hy
       unfold Z6o at hf
       cases hg:d.h.gaps[(q.getLast h0).toNat]? with
       | none=>rw [hg] at hf;cases hf
       | some g =>
         rw [hg] at hf
         dsimp only at hf
         have hgo:=hok.gaps g (List.mem_of_getElem? hg)
         cases hb:(!d.cl.testBit (q.getLast h0).toNat&&(decide (g.a=y)||decide (g.b=y))) with
         | false=>rw [hb] at hf;cases hf
         | true =>
           rw [hb] at hf
           cases hf
           rw [Bool.and_eq_true,Bool.or_eq_true,decide_eq_true_eq,decide_eq_true_eq] at hb
           omega
   exact fun q=>key _ q rfl
 refine Z1G (ι:=(y:{y:Nat×List Nat // y.1≤p.length})×{z:Option Addr×Nat×Z4 // ∀ w H9,St H9 (z.2.2) w→St H9 (RowsA z.1 1 (Z6 (Z2F d.h.gaps d.cl fr (p.take y.1.1)))::R) w}) (fun y=>⟨[(0,.pointer (some ⟨d.bd,0,none⟩)),(3,.slice ap p.length cp),(6,.pointer (some ⟨b6,0,none⟩)),(9,.slice y.2.1.1 (Z2F d.h.gaps d.cl fr (p.take y.1.1.1)).length y.2.1.2.1),(18,.slice ap p.length cp),(19,.int .i64 p.length),(20,.int .i64 y.1.1.1)],mks y.1.1.2,(b6,cel 23 [.slice at_ to_.length ct])::(mkh y.1.1.2++H),y.2.1.2.2⟩) (fun y=>p.length-y.1.1.1) ⟨⟨(0,[]),Nat.zero_le _⟩,(af,cf,R),fun w H9 h=>St.also h (fun w' hg=>hg _ hF.mem)⟩ ?_ (fun y=>?_)
 exact Z4F sbA rfl idH
 ·
  obtain ⟨⟨⟨k,mk⟩,hk⟩,⟨aw,cw,R9⟩,hR9⟩:=y
  dsimp only at hk hR9 ⊢
  refine Sy.heap (fun w h=>hR9 w _ h) ?_
  have hwl:=Zdr d.h.gaps d.cl fr (p.take k)
  refine sqt 1 rfl (pur 1 rfl (Z0 ?_))
  refine Z1 rfl ?_ ?_<;>intro hc0<;>try simp only [cS] at hc0
  ·
   obtain ⟨q,hq⟩:∃ q,p[k]?=some q:=⟨_,List.getElem?_eq_getElem (by omega)⟩
   obtain ⟨qn,rfl⟩:∃ n:Nat,q=n:=⟨q.toNat,by have:=hp q (List.mem_of_getElem? hq);omega⟩
   have hws:Z2F d.h.gaps d.cl fr (p.take (k+1))=(Z2F d.h.gaps d.cl fr (p.take k)).filterMap (Z6o d.h.gaps d.cl qn):=by rw [List.take_add_one,hq,Option.toList_some,Z4I];rfl
   refine Zi (a:=ap) (sz:=1) (rows:=Z6 p) (ne0 (by rw [irl];omega)) (fun ba oa he=>?_)
   subst he
   refine Z2 (Z0 (Z3 (sqt 4 rfl (sp rfl (PE.indexAddr Z0G rfl rfl (by omega) (by omega)) rfl (spL rfl rfl (lf0 sc3 (ZQ hq) rfl) rfl (alc rfl zl3 rfl (fun b11=>?_)))))))
   refine sto rfl rfl rfl cn3 rfl rfl rfl rfl ?_
   refine sqt 1 rfl (alc rfl Zc2 rfl (fun b12=>Z0 (sqt 3 rfl (pur 1 rfl (sp rfl (PE.lenSl ZT rfl) rfl (pur 1 rfl (Z3 ?_)))))))
   refine Z1G (ι:=(y:{y:Nat×List Nat // y.1≤(Z2F d.h.gaps d.cl fr (p.take k)).length})×OSl 3 1 (Z6 ((((Z2F d.h.gaps d.cl fr (p.take k))).take y.1.1).filterMap (Z6o d.h.gaps d.cl qn)))) (fun y=>⟨[(0,.pointer (some ⟨d.bd,0,none⟩)),(3,.slice (some ⟨ba,oa,none⟩) p.length cp),(6,.pointer (some ⟨b6,0,none⟩)),(11,.pointer (some ⟨b11,0,none⟩)),(12,.pointer (some ⟨b12,0,none⟩)),(18,.slice (some ⟨ba,oa,none⟩) p.length cp),(19,.int .i64 p.length),(20,.int .i64 k),(24,.slice aw (Z2F d.h.gaps d.cl fr (p.take k)).length cw),(25,.int .i64 (Z2F d.h.gaps d.cl fr (p.take k)).length),(26,.int .i64 y.1.1.1)],mks y.1.1.2,(b12,cel 23 [y.2.fs])::(y.2.G++((b11,cel 3 [.int .i64 (qn:Int)])::(b6,cel 23 [.slice at_ to_.length ct])::(mkh y.1.1.2++H))),RowsA aw 1 (Z6 (Z2F d.h.gaps d.cl fr (p.take k)))::R⟩) (fun y=>(Z2F d.h.gaps d.cl fr (p.take k)).length-y.1.1.1) ⟨⟨(0,mk),Nat.zero_le _⟩,OSl.nil _ _⟩ ?_ (fun y=>?_)
   exact Z4F sbA rfl idH
   ·
    obtain ⟨⟨⟨i,mk2⟩,hi⟩,o⟩:=y
    dsimp only at hi o ⊢
    refine sqt 1 rfl (pur 1 rfl (Z0 ?_))
    refine Z1 rfl ?_ ?_<;>intro hc1<;>try simp only [cS] at hc1
    ·
     obtain ⟨b,hb⟩:∃ b,(Z2F d.h.gaps d.cl fr (p.take k))[i]?=some b:=⟨_,List.getElem?_eq_getElem (by omega)⟩
     have hb7:=hw7 (p.take k) b (List.mem_of_getElem? hb)
     refine Zi (a:=aw) (sz:=1) (rows:=Z6 (Z2F d.h.gaps d.cl fr (p.take k))) (ne0 (by rw [irl];omega)) (fun bw ow hew=>?_)
     subst hew
     refine Z2 (Z0 (Z3 (sqt 3 rfl (sp rfl (PE.indexAddr Z0G rfl rfl (by omega) (by omega)) rfl (spL rfl rfl (lf0 sc3 (ZQ hb) rfl) rfl (pur 1 rfl (sqt 3 rfl (pur 2 rfl ?_))))))))
     refine cl rfl Zah rfl rfl (ZeV d.bd b _ _) ?_
     rintro _ _ _ ⟨xd,xb,rfl,rfl,rfl⟩
     refine Z3 ?_
     refine Z3W rfl Zap (fun c0 bl0 bd0 hcp0 hca0 hcb0 hck0=>?_)
     refine ⟨fun st pend T R'=>st = .ready∧pend=none∧∃ o2:OSl 3 1 (Z6 (((((Z2F d.h.gaps d.cl fr (p.take k))).take i).filterMap (Z6o d.h.gaps d.cl qn))++nxP d.h.gaps d.cl qn b d.h.gaps.length)),T=(bd0,.deferred (some []))::(b12,cel 23 [o2.fs])::(o2.G++((b11,cel 3 [.int .i64 (qn:Int)])::(b6,cel 23 [.slice at_ to_.length ct])::(mkh mk2++H)))∧R'=RowsA (some ⟨xb,0,none⟩) 1 [[.int .i64 b]]::RowsA (some ⟨xd,0,none⟩) 1 [[.pointer (some ⟨d.bd,0,none⟩)]]::RowsA (some ⟨bw,ow,none⟩) 1 (Z6 (Z2F d.h.gaps d.cl fr (p.take k)))::R,
       Fn.mono (Zae d hd b ⟨by omega,by omega⟩ xd xb bl0 (fun x H' R'=>∃ o2:OSl 3 1 (Z6 (((((Z2F d.h.gaps d.cl fr (p.take k))).take i).filterMap (Z6o d.h.gaps d.cl qn))++nxP d.h.gaps d.cl qn b x)),H'=(bl0,lob c0 .ready none)::(bd0,.deferred (some []))::(b12,cel 23 [o2.fs])::(o2.G++((b11,cel 3 [.int .i64 (qn:Int)])::(b6,cel 23 [.slice at_ to_.length ct])::(mkh mk2++H)))∧R'=RowsA (some ⟨xb,0,none⟩) 1 [[.int .i64 b]]::RowsA (some ⟨xd,0,none⟩) 1 [[.pointer (some ⟨d.bd,0,none⟩)]]::RowsA (some ⟨bw,ow,none⟩) 1 (Z6 (Z2F d.h.gaps d.cl fr (p.take k)))::R) (fun _ _=>False)
         (fun x H' R' h9=>by obtain ⟨_,_,rfl⟩:=h9;exact ⟨List.mem_cons_of_mem _ (List.mem_cons_of_mem _ (List.mem_cons_of_mem _ hD.mem)),List.mem_cons_of_mem _ (List.mem_cons_of_mem _ (List.mem_cons_of_mem _ hG.mem)),by simp,by simp,fun g hg=>List.mem_cons_of_mem _ (List.mem_cons_of_mem _ (List.mem_cons_of_mem _ (sR.sub g hg)))⟩)
         (fun x g H' R' hg hn h9=>by
           obtain ⟨o2,rfl,rfl⟩:=h9
           exact ⟨o2.cast (by rw [Zbm (fun e=>by subst e;exact Zfc hg hn)]),rfl,rfl⟩)
         (fun x g q9 o9 H' R' hg hop hinc hI=>?_) _ _ ⟨o.cast (by rw [Zd8,List.append_nil]),rfl,rfl⟩) (fun v H' R' h9=>?_),?_⟩
     rotate_left
     · rcases h9 with ⟨o2,rfl,rfl⟩ | h9
       · exact ⟨.ready,none,_,by simp,.refl _,rfl,rfl,o2,rfl,rfl⟩
       · exact h9.elim
     rotate_left
     obtain ⟨o2,rfl,rfl⟩:=hI
     have hgo:=hok.gaps g (List.mem_of_getElem? hg)
     have hgl:=hok.gl
     have hxl:=(List.getElem?_eq_some_iff.1 hg).1
     have hol:(((Z2F d.h.gaps d.cl fr (p.take k)).take i).filterMap (Z6o d.h.gaps d.cl qn)).length≤1000:=Nat.le_trans (List.length_filterMap_le _ _) (by rw [List.length_take];omega)
     refine Zc0 hcp0 hca0 hcb0 hck0 rfl rfl ?_
     refine sqt 1 rfl (pur 1 rfl (sqr 1 rfl (pur 1 rfl ?_)))
     refine Z0R ?_
     refine Z3 (sqt 3 rfl (pur 1 rfl (spL rfl rfl (lh sc3 rfl rfl) rfl (pur 1 rfl ?_))))
     refine Z1 rfl ?_ ?_<;>intro hc2<;>try simp only [cS] at hc2
     obtain rfl:x=qn:=by omega
     have hf:=Zia (ZhX hg hop hinc)
     refine sqr 5 rfl (spL rfl rfl (lh Z0x rfl rfl) rfl (pur 1 rfl ?_))
     refine bsl (out:=[_]) rfl Z0F zl3 rfl rfl rfl rfl rfl rfl (fun b40=>?_)
     refine apO (o2) rfl Z37 rfl rfl (ZU (row:=[.int .i64 (g.a+g.b-b)]) rfl) rfl rfl ((by rw [irl,List.length_append,hf.1];simp only [List.length_nil,List.length_singleton];omega)) rfl (fun o41=>?_)
     refine ZB (l':=[o41.fs]) rfl rfl rfl Z6g rfl (by rw [o41.cells.1];first | done | rfl) (by rw [o41.cells.1];simp [o41.cells.2]) (by rw [o41.cells.1];first | done | rfl) (by rw [o41.cells.1];first | done | exact Nat.le_refl _) ?_
     exact Z0d (.inl ⟨rfl,_,rfl,o41.cast (by rw [hf.1,hf.2,List.append_nil];simp [Z6]),rfl,rfl⟩) (fun _ h9=>by exact h9.del b40)
     have hne:x≠qn:=by omega
     refine Z2 ?_
     exact Z0d (.inl ⟨rfl,_,rfl,o2.cast (by rw [Zbm (fun e=>absurd e.symm hne)]),rfl,rfl⟩) (fun _ h9=>by exact h9)
     rintro _ _ _ _ ⟨rfl,rfl,o2,rfl,rfl⟩
     refine Zdp ?_
     refine sqr 2 rfl (sp rfl (PE.add rfl rfl (by omega)) rfl (pur 1 rfl ?_))
     exact Z2i ⟨⟨(i+1,bd0::mk2),by dsimp only;omega⟩,o2.cast (by rw [Zff hb,Zfx])⟩ (by dsimp only;omega) sbA rfl (fun w h9=>St.sub (h9.perm ((Zo [_] [_] _).trans (List.Perm.append_left [_] ((Zo [_] o2.G _).trans (List.Perm.append_left o2.G (Zo [_] [_,_] _)))))))
    obtain rfl:i=(Z2F d.h.gaps d.cl fr (p.take k)).length:=by omega
    refine Z9 (Za (Za (Zh (sqr 2 rfl ?_))))
    obtain ⟨o3,e3,g3⟩:∃ o3:OSl 3 1 (Z6 (Z2F d.h.gaps d.cl fr (p.take (k+1)))),o3.fs=o.fs∧o3.G=o.G:=⟨o.cast (by rw [hws,List.take_length]),rfl,rfl⟩
    obtain ⟨an,cn,hfe,hfz⟩:=o3.freeze
    rw [irl] at hfe
    rw [← e3,hfe,← g3]
    refine Sy.heap (H':=(b12,cel 23 [.slice an (Z2F d.h.gaps d.cl fr (p.take (k+1))).length cn])::((b11,cel 3 [.int .i64 (qn:Int)])::(b6,cel 23 [.slice at_ to_.length ct])::(mkh mk2++H))) (R':=RowsA an 1 (Z6 (Z2F d.h.gaps d.cl fr (p.take (k+1))))::R) (fun w h9=>St.sub (hfz (h9.perm (Zo [_] o3.G _)))) ?_
    refine spL rfl rfl (lh Z0x rfl rfl) rfl (pur 1 rfl (sqr 2 rfl (sp rfl (PE.add rfl rfl (by omega)) rfl (pur 1 rfl ?_))))
    exact Z2i ⟨⟨(k+1,mk2),by dsimp only;omega⟩,(an,cn,RowsA an 1 (Z6 (Z2F d.h.gaps d.cl fr (p.take (k+1))))::R),fun w H9 h9=>h9⟩ (by dsimp only;omega) sbA rfl (fun w h9=>(h9.del b12).del b11)
  obtain rfl:k=p.length:=by omega
  refine Z9 (Za (Za (Zh (sqt 9 rfl (pur 1 rfl (sp rfl (PE.lenSl ZT rfl) rfl (pur 2 rfl ?_)))))))
  refine Zw 48 rfl ?_ ?_<;>intro g48
  refine pur 1 rfl ?_
  refine spG rfl rfl rfl rfl (PE.makeFunc rfl rfl) rfl ?_
  refine Z9t rfl rfl rfl rfl Zal rfl rfl (Z46 (Z2F d.h.gaps d.cl fr (p.take p.length)) aw cw 222 [] [_] (Z5A to_) Zhg (by omega) _ _ (fun x _=>Zcr to_ at_ ct b6 (by omega) x _ _)) ?_
  refine pur 2 rfl (Z5 ?_)
  exact Z0V mk (H:=(b6,cel 23 [.slice at_ to_.length ct])::H) (fun w h=>h.perm (List.perm_middle (l₁:=mkh mk)).symm) rfl (.cons (RV.tmp rfl) .nil) rfl ⟨by simp only [ZP];unfold Zc6;rw [show decide (0<p.length)=true from dT (by simpa using g48),List.take_length];rfl,rfl,rfl⟩ (fun w h=>(h.del b6).ftail)
  refine pur 5 rfl (Z5 ?_)
  exact Z0V mk (H:=(b6,cel 23 [.slice at_ to_.length ct])::H) (fun w h=>h.perm (List.perm_middle (l₁:=mkh mk)).symm) rfl (.cons (RV.tmp rfl) .nil) rfl ⟨by simp only [ZP];unfold Zc6;rw [show decide (0<p.length)=false from dF (by simpa using g48)];rfl,rfl,rfl⟩ (fun w h=>(h.del b6).ftail)
theorem Zga:arE Tryz.prog 172=some (7,3):=by kernel_rfl
def Hse.weeksR (h:Hse) (l:List Int):List Int×Int:=bif decide (h.lsE l≠0) then ([],h.lsE l) else (h.weeksV l,0)
theorem ZfU {w:List Int} {k:Nat} (h:k<w.length):mkv false ((w.drop (k*1)).take 1) = .int .i64 (na w k):=by
 have h2:=ZR h
 rw [List.getElem?_eq_getElem h] at h2
 rw [Nat.mul_one,List.drop_eq_getElem_cons h,Option.some.inj h2];rfl
theorem Z3o (w:List Int):(wkR w).length=w.length:=List.length_map _
theorem Zi5 {h:Hse} {l:List Int} (hc:h.check≠0):h.lsE l=h.check:=by unfold Hse.lsE;rw [decide_eq_true hc];rfl
theorem Ze9 {h:Hse} {l:List Int} (hc:h.check=0):h.lsE l=Z0y h.bins l:=by unfold Hse.lsE;rw [decide_eq_false (fun e=>e hc)];rfl
theorem Z6S {h:Hse} {l:List Int} {e:Int} (he:h.lsE l=e) (h0:e≠0):h.weeksR l=([],e):=by unfold Hse.weeksR;rw [he,decide_eq_true h0];rfl
theorem Z6T {h:Hse} {l:List Int} (he:h.lsE l=0):h.weeksR l=(h.weeksV l,0):=by unfold Hse.weeksR;rw [he];rfl
set_option maxHeartbeats 600000 in
theorem Z9M (h:Hse) (ag as_:Option Addr) (cg cs:Nat) (hlg:h.gaps.length≤9223372036854775807) (hls:h.sights.length≤9223372036854775807) (l:List Int) (a:Option Addr) (c:Nat) (hl:l.length≤9223372036854775807) (hlc:l.length≤c) (H:Z8) (R:Z4) [hG:MemRows ag 2 (grows h.gaps) R] [hS:MemRows as_ 3 (srows h.sights) R] [hR:MemRows a 1 (Z6 l) R] :
    Fn Tryz.prog 24 [h.v (h.sg ag cg) (h.ss as_ cs),.slice a l.length c] H R (fun v H' R'=>∃ a c',(h.weeksR l).1.length≤c'∧v = .tuple #[.slice a (h.weeksR l).1.length c',.int .i64 (h.weeksR l).2]∧H'=H∧R'=RowsA a 1 (Z6 (h.weeksR l).1)::R):=by
 refine Zc Tryz.func24 rfl Tryz.ntmps24 rfl ?_
 refine sqt 3 rfl (bx rfl rfl rfl (fun b2=>pur 2 rfl (Z0 (sqt 3 rfl (spL rfl rfl (lhA (htl h (h.sg ag cg) (h.ss as_ cs)) Z2m rfl rfl rfl) rfl ?_)))))
 refine clV rfl Zau rfl rfl (Z1P h ag as_ cg cs hlg hls _ _) ?_
 refine pur 1 rfl (sqt 2 rfl (pur 2 rfl ?_))
 refine Z1 rfl ?_ ?_<;>intro hc0
 have hck:h.check≠0:=of_decide_eq_true hc0
 have e:=Z6S (l:=l) (Zi5 hck) hck
 refine sqt 3 rfl (pur 3 rfl (Z5 ?_))
 rw [show h.check=(h.weeksR l).2 from by rw [e]]
 exact rtB rfl rfl rfl rfl ⟨none,0,by rw [e]<;>exact Nat.le_refl _,by rw [e]<;>rfl,rfl,by rw [e]<;>rfl⟩ (fun w h9=>St.norows (h9.del b2))
 have hck:h.check=0:=Classical.byContradiction fun e=>by rw [decide_eq_true e] at hc0;cases hc0
 have hok:=hse_ok.1 hck
 have hbn:=hok.bins
 have hE:=Ze9 (l:=l) hck
 refine Z2 (Z0 (sqt 5 rfl (pur 1 rfl (spL rfl rfl (lhA (htl h (h.sg ag cg) (h.ss as_ cs)) Z2m rfl rfl rfl) rfl (sp rfl (PE.makeFunc rfl rfl) rfl ?_)))))
 refine clV rfl ZeZ rfl rfl (Z5m l a c 63 [h.v (h.sg ag cg) (h.ss as_ cs)] [] (fun k=>inB k 0 (h.bins-1)) Zav hl hlc _ _ (fun _ x _=>Z5l h hok.bins (h.sg ag cg) (h.ss as_ cs) x _ _)) ?_
 refine pur 1 rfl (sqt 2 rfl (pur 2 rfl ?_))
 refine Z1 rfl ?_ ?_<;>intro hc1
 have hle:Z0y h.bins l≠0:=of_decide_eq_true hc1
 have e:=Z6S hE hle
 refine sqt 3 rfl (pur 3 rfl (Z5 ?_))
 rw [show Zea (fun k=>inB k 0 (h.bins-1)) l=(h.weeksR l).2 from by rw [e];rfl]
 exact rtB rfl rfl rfl rfl ⟨none,0,by rw [e]<;>exact Nat.le_refl _,by rw [e]<;>rfl,rfl,by rw [e]<;>rfl⟩ (fun w h9=>St.norows (h9.del b2))
 have hle:Z0y h.bins l=0:=Classical.byContradiction fun e=>by rw [show decide (Zea (fun k=>inB k 0 (h.bins-1)) l≠0)=true from decide_eq_true e] at hc1;cases hc1
 have hlx:=(Z2c hle).1
 have e:=Z6T (hE.trans hle)
 refine Z2 (sqt 1 rfl (pur 1 rfl (Z0 (sqt 5 rfl (spL rfl rfl (lhA (htl h (h.sg ag cg) (h.ss as_ cs)) Z2m rfl rfl rfl) rfl ?_)))))
 refine cl rfl Z94 rfl rfl (Z92 h ag as_ cg cs _ _) ?_
 rintro _ _ _ ⟨bd,rfl,rfl,rfl⟩
 refine pur 1 rfl ?_
 refine clV rfl Zf0 rfl rfl (Z49 (dkA h ag as_ cg cs bd) (Z1m h ag as_ cg cs hok bd) l a c hl (fun x hx=>by have:=hlx x hx;omega) _ _) ?_
 rw [show (wks (dkA h ag as_ cg cs bd).h.gaps (dkA h ag as_ cg cs bd).cl (msk l))=(wks h.gaps 0 (msk l)) from rfl]
 refine pur 1 rfl (Z3 ?_)
 refine Zb (ι:=(k:{k:Nat // k≤7})×OSl 3 1 (Z6 (wkR ((wks h.gaps 0 (msk l)).take k.1)))) (fun y=>⟨[(2,.pointer (some ⟨b2,0,none⟩)),(8,y.2.fs),(26,.agg (Zp (wks h.gaps 0 (msk l))).toArray),(27,.int .i64 y.1.1)],y.2.G++(b2,cel 95 (htl h (h.sg ag cg) (h.ss as_ cs)))::H,RowsA (some ⟨bd,0,none⟩) 4 [(dkA h ag as_ cg cs bd).row]::R⟩) (fun y=>7-y.1.1) ⟨⟨0,Nat.zero_le _⟩,OSl.nil _ _⟩ ?_ (fun y=>?_)
 exact Ze idH
 obtain ⟨⟨k,hk⟩,o⟩:=y
 dsimp only at hk o ⊢
 refine sqt 1 rfl (pur 1 rfl (Z0 ?_))
 refine Z1 rfl ?_ ?_<;>intro hc2<;>try simp only [cS] at hc2
 have hk7:k<7:=by omega
 refine Z2 (Z0 (Z3 (sqt 2 rfl ?_)))
 refine sp rfl ((PE.indexI (l:=(wks h.gaps 0 (msk l))) (i:=k) Zga (Z2M 10000 3 false 1 Z4c) (fun _=>rfl) rfl rfl (by omega) (by rw [Z0b];omega)).to (ZfU (by rw [Z0b];omega))) rfl ?_
 refine pur 1 rfl (Z0 (sqt 2 rfl (pur 2 rfl ?_)))
 refine Z1 rfl ?_ ?_<;>intro hc3<;>try simp only [cS] at hc3
 refine sqr 1 rfl (pur 1 rfl (sqr 5 rfl (pur 2 rfl ?_)))
 refine bsl (out:=[_]) rfl Z0F zl3 rfl rfl rfl rfl rfl rfl (fun b34=>?_)
 refine apO (o) rfl Z37 rfl rfl (ZU (row:=[.int .i64 (-1)]) rfl) rfl rfl ((by rw [irl,Z3o,List.length_take];simp only [List.length_singleton];omega)) rfl (fun o35=>?_)
 refine pur 1 rfl (sqr 2 rfl (sp rfl (PE.add rfl rfl (by omega)) rfl (pur 1 rfl ?_)))
 have hst:=Z8W (w:=(wks h.gaps 0 (msk l))) (k:=k) (by rw [Z0b];omega)
 rw [dT (show far≤na (wks h.gaps 0 (msk l)) k by unfold far;omega),cond_true] at hst
 exact Z7 ⟨⟨k+1,by omega⟩,o35.cast (by rw [hst];simp [Z6])⟩ (fun w h9=>h9.del b34)
 refine Z2 (sqr 5 rfl (pur 2 rfl ?_))
 refine bsl (out:=[_]) rfl Z0F zl3 rfl rfl rfl rfl rfl rfl (fun b34=>?_)
 refine apO (o) rfl Z37 rfl rfl (ZU (row:=[.int .i64 (na (wks h.gaps 0 (msk l)) k)]) rfl) rfl rfl ((by rw [irl,Z3o,List.length_take];simp only [List.length_singleton];omega)) rfl (fun o35=>?_)
 refine pur 1 rfl (sqr 2 rfl (sp rfl (PE.add rfl rfl (by omega)) rfl (pur 1 rfl ?_)))
 have hst:=Z8W (w:=(wks h.gaps 0 (msk l))) (k:=k) (by rw [Z0b];omega)
 rw [dF (show ¬ far≤na (wks h.gaps 0 (msk l)) k by unfold far;omega),cond_false] at hst
 exact Z7 ⟨⟨k+1,by omega⟩,o35.cast (by rw [hst];simp [Z6])⟩ (fun w h9=>h9.del b34)
 obtain rfl:k=7:=by omega
 have htk:(wks h.gaps 0 (msk l)).take 7=(wks h.gaps 0 (msk l)):=List.take_of_length_le (by rw [Z0b];omega)
 obtain ⟨ac,cc,he,hcc,hf⟩:=(o.cast (by rw [htk])).freezeC
 rw [irl,Z3o,Z0b] at hcc
 rw [show o.fs=_ from he,irl,Z3o,Z0b]
 refine Sy.heap (fun w h9=>hf h9) ?_
 clear he hf
 refine Z9 (Za (Za (Zh (sqt 6 rfl (pur 1 rfl (sp rfl (PE.fA Z2r rfl) rfl (spL rfl rfl (lh sc3 rfl rfl) rfl ?_)))))))
 rw [show h.bins=((h.bins.toNat:Nat):Int) by omega]
 refine sp rfl (PE.slHi (h:=h.bins.toNat) Z0F rfl rfl (by omega)) rfl (pur 2 rfl (Z5 ?_))
 refine Sy.heap (fun w h9=>St.rowsTake (a:=ac) (sz:=1) (rows:=Z6 (wkR (wks h.gaps 0 (msk l)))) h9 h.bins.toNat) ?_
 have hwl:(h.weeksR l).1.length=h.bins.toNat:=by rw [e];show ((wkR (wks h.gaps 0 (msk l))).take h.bins.toNat).length=_;rw [List.length_take,Z3o,Z0b];omega
 exact rtB rfl rfl rfl rfl ⟨ac,cc,by rw [hwl];omega,by rw [hwl,e]<;>rfl,rfl,show RowsA ac 1 ((Z6 (wkR (wks h.gaps 0 (msk l)))).take h.bins.toNat)::_=_ from by rw [Z58,e];rfl⟩ drp
theorem Zkr:apT Tryz.prog 44=some (23,1,24):=by kernel_rfl
theorem Zhc:cal Tryz.prog 214=true:=by kernel_rfl
theorem Z7l:Z0m Tryz.prog 326 1=some 1:=by kernel_rfl
structure PL where
 a:Option Addr
 c:Nat
 l:List Int
def Z9e (x:PL):List Value:=[.slice x.a x.l.length x.c]
def Z08 (l:List PL):List (List Value):=l.map Z9e
def Inn (l:List PL) (w:World):Prop:=∀ x∈l,RowsA x.a 1 (Z6 x.l) w
def lls (l:List PL):List (List Int):=l.map (·.l)
theorem Z1t (l:List PL):(Z08 l).length=l.length:=List.length_map _
theorem Zeg {l:List PL} {k:Nat} {x:PL} (h:l[k]?=some x):(Z08 l)[k]?=some (Z9e x):=by simp [Z08,h]
theorem Z7q (l:List PL):(lls l).length=l.length:=List.length_map _
theorem St.inn {H:Z8} {R:Z4} {w:World} {l:List PL} {x:PL} [m:MemF (Inn l) R] (h:St H R w) (hx:x∈l):St H (RowsA x.a 1 (Z6 x.l)::R) w :=
 h.also fun _ hw=>hw _ m.mem x hx
theorem PE.fieldV {P:Program} {L:Zk} {d:Option Tmp} {ty:TypeId} {pos:String} {af:Array Edge} {gg:Option (Nat×Bool)} {T k e o:Nat} {x:Operand} {vs:List Value} {v:Value} (hF:fTy P T k=some (e,o)) (hE:Z17 P e=true) (hx:ev L x=some (.agg vs.toArray)) (hv:vs[o]?=some v) :
   PE P L ⟨d,.field T x k,ty,pos,af,gg⟩ v:=fun ρ hρ w=>by
 unfold fTy at hF
 split at hF
 · rename_i fs hu
   obtain ⟨f,hf,he⟩:=Option.map_eq_some_iff.1 hF
   cases he
   simp [execOp,hρ _ _ hx,Instr.field,Sem.run_bind,Sem.run_pure,run_underlying hu,Result.andThen,hf,asAgg,part,Z1k hE,hv]
 · cases hF
theorem St.innSnoc {H:Z8} {R:Z4} {w:World} {l:List PL} (x:PL) [m:MemF (Inn l) R] [n:MemRows x.a 1 (Z6 x.l) R] (h:St H R w):St H (Inn (l++[x])::R) w:=h.also fun w' hw y hy=>by
 rcases List.mem_append.1 hy with h1 | h1
 · exact hw _ m.mem y h1
 · rw [List.mem_singleton.1 h1];exact hw _ n.mem
theorem St.inn0 {H:Z8} {R:Z4} {w:World} (h:St H R w):St H (Inn []::R) w:=h.also fun w' hw y hy=>by cases hy
theorem Z84 {gs:List Gp} {c m:Nat} (hw:Wth gs 7) (hm:m<2 ^ 7) (h:spr gs c m≠m):cnt 7 m<cnt 7 (spr gs c m):=by
 have hex:∃ k,(spr gs c m).testBit k=true∧m.testBit k=false:=Classical.byContradiction fun hn=>h (Z0v fun k=>by
   cases hb:m.testBit k with
   | true=>exact Z1e hb
   | false =>
     cases hb2:(spr gs c m).testBit k with
     | false=>rfl
     | true=>exact absurd ⟨k,hb2,hb⟩ hn)
 obtain ⟨k,h3,h4⟩:=hex
 unfold cnt
 exact Z4b (fun x _ hx=>Z1e hx) ⟨k,List.mem_range.2 (Z1N (Z4A hw hm) h3),h3,h4⟩
theorem Z2e (l:List PL) (x:PL):Z08 l++[Z9e x]=Z08 (l++[x]):=by simp [Z08]
theorem Z5D (l:List PL) (x:PL):lls (l++[x])=lls l++[x.l]:=by simp [lls]
def Zj0 (h:Hse) (fr to_:List Int) (spd:Int) (H:Z8) (R:Z4):Value→Z8→Z4→Prop:=fun v H' R'=>H'=H∧((h.rcE fr to_ spd≠0∧v = .tuple #[.slice none 0 0,.int .i64 (h.rcE fr to_ spd)]∧R'=R) ∨
 (h.rcE fr to_ spd=0∧(∀ n,¬ Pl h.gaps (msk to_) spd.toNat (msk fr) 0 n)∧v = .tuple #[.slice none 0 0,.int .i64 6]∧R'=R) ∨
 (h.rcE fr to_ spd=0∧∃ (ls:List Nat) (pl:List PL) (a:Option Addr) (c:Nat),lls pl=ls.map Z2U∧pl.length≤8∧pl.length≤c∧(∀ l∈ls,l<2 ^ h.gaps.length)∧RunP h.gaps (msk to_) spd.toNat (msk fr) 0 ls∧Lst (Pl h.gaps (msk to_) spd.toNat (msk fr) 0) (Zc9 h.gaps ls)∧v = .tuple #[.slice a pl.length c,.int .i64 0]∧R'=RowsA a 1 (Z08 pl)::Inn pl::R))
theorem Zij {h:Hse} {fr to_:List Int} {spd:Int} (he:h.rcE fr to_ spd=0):h.Bot fr to_∧0≤spd∧spd≤10:=by
 unfold Hse.rcE at he
 by_cases h1:h.botE fr to_=0
 · rw [decide_eq_false (fun e=>e h1),cond_false] at he
   cases h2:inB spd 0 10 with
   | false=>rw [h2] at he;cases he
   | true=>exact ⟨Z4Z h1,by simpa [inB] using h2⟩
 · rw [decide_eq_true h1,cond_true] at he;exact absurd he h1
theorem Seg.lt {gs:List Gp} {K sp:Nat} (hw:Wth gs 7):∀ {ls:List Nat} {m c m' c':Nat},Seg gs K sp m c ls m' c'→m<2 ^ 7→c<2 ^ gs.length→m'<2 ^ 7∧c'<2 ^ gs.length
 | [],m,c,m',c',⟨h1,h2⟩,h3,h4=>by subst h1;subst h2;exact ⟨h3,h4⟩
 | l::ls,m,c,m',c',⟨h1,h2⟩,h3,h4=>Seg.lt hw h2 (Z4A hw h3) (Nat.or_lt_two_pow h4 h1.1)
set_option maxHeartbeats 1000000 in
theorem ZdB (h:Hse) (ag as_:Option Addr) (cg cs:Nat) (hlg:h.gaps.length≤9223372036854775807) (hls:h.sights.length≤9223372036854775807) (fr to_:List Int) (af at_:Option Addr) (cf ct:Nat) (hlf:fr.length≤1000000) (hlt:to_.length≤1000000) (hfc:fr.length≤cf) (htc:to_.length≤ct) (spd:Int) (H:Z8) (R:Z4) [hG:MemRows ag 2 (grows h.gaps) R] [hS:MemRows as_ 3 (srows h.sights) R] [hF:MemRows af 1 (Z6 fr) R] [hT:MemRows at_ 1 (Z6 to_) R] :
    Fn Tryz.prog 139 [h.v (h.sg ag cg) (h.ss as_ cs),.slice af fr.length cf,.slice at_ to_.length ct,.int .i64 spd] H R (Zj0 h fr to_ spd H R):=by
 refine Zc Tryz.func139 rfl Tryz.ntmps139 rfl ?_
 refine sqt 3 rfl (bx rfl rfl rfl (fun b4=>pur 2 rfl (sqt 10 rfl (spL rfl rfl (lhA (htl h (h.sg ag cg) (h.ss as_ cs)) Z2m rfl rfl rfl) rfl (pur 3 rfl ?_)))))
 refine cl rfl Zhc rfl rfl (ZeW h ag as_ cg cs hlg hls fr to_ af at_ cf ct hlf hlt hfc htc spd _ _) ?_
 rintro _ _ R1 (⟨hre,rfl,rfl,hR1⟩ | ⟨hre,bd,br,mm,rfl,rfl,hR1⟩)<;>obtain rfl:=hR1.symm<;>clear hR1
 refine pur 5 rfl (Z0 (sqt 2 rfl (pur 2 rfl ?_)))
 refine Z1 rfl ?_ ?_<;>intro hc0
 refine sqt 3 rfl (pur 3 rfl (Z5 ?_))
 exact rtB rfl rfl rfl rfl ⟨rfl,.inl ⟨hre,rfl,rfl⟩⟩ (fun w h9=>h9.del b4)
 exact absurd hc0 (by simp [hre])
 refine pur 5 rfl (Z0 (sqt 2 rfl (pur 2 rfl ?_)))
 refine Z1 rfl ?_ ?_<;>intro hc0
 exact absurd hc0 (by simp)
 obtain ⟨hb,hs0,hs10⟩:=Zij hre
 obtain ⟨q1,q2,q3,q4,q5,q6⟩:=Z1O hb
 have hok:=hb.ok
 have hgl:=hok.gl
 have hw7:Wth h.gaps 7:=fun g hg=>by have:=hok.gaps g hg;have:=hok.bins;omega
 have hS7:msk fr<2 ^ 7:=msk_lt fun x hx=>q1 x hx
 have hK7:msk to_<2 ^ 7:=msk_lt fun x hx=>q2 x hx
 have htwo:Two h.gaps (msk fr) (msk to_):=⟨hw7,fun i g hg=>by have:=hok.gaps g (List.mem_of_getElem? hg);omega,hS7,hK7,fun v hv=>by
   cases hk:(msk to_).testBit v with
   | false=>rfl
   | true=>exact absurd ((ZN (fun k hk=>(q2 k hk).1) v).1 hk) (hb.no _ ((ZN (fun k hk=>(q1 k hk).1) v).1 hv))⟩
 have hK:(rcD h ag as_ cg cs to_ spd bd br mm).K<2 ^ 7:=hK7
 have hsp:(rcD h ag as_ cg cs to_ spd bd br mm).sp≤1000:=by show spd.toNat≤1000;omega
 refine Z2 (Z0 (sqt 8 rfl (pur 1 rfl (sp rfl (PE.nilCheck rfl) rfl (sp rfl (PE.fA Z7k rfl) rfl (spL rfl rfl (lfB (sz:=4) Z4x rfl) rfl (pur 2 rfl ?_)))))))
 refine cl rfl ZhG rfl rfl (Zgm (dkA h ag as_ cg cs bd) (Z1m h ag as_ cg cs hb.ok bd) fr to_ af at_ cf ct q1 q2 q3 (by omega) hb.no _ _) ?_
 rintro _ _ R1 ⟨fl,V,a,c,hfl,hfw,hsh,rfl,hcc,rfl,hR1⟩
 obtain rfl:=hR1.symm
 clear hR1
 have hop:=Ze3 h ag as_ cg cs bd
 rw [hop] at hsh
 have hCM:Zf6 (dkA h ag as_ cg cs bd).h.gaps (dkA h ag as_ cg cs bd).cl (Z2o V)=Z2n (Z2o V) h.gaps:=Z6l _ _
 rw [hCM] at hcc ⊢
 obtain ⟨hcut,hshut⟩:=Shn.cut htwo hsh hfw
 obtain ⟨CU,hCU⟩:∃ CU,CU=Z2n (Z2o V) h.gaps:=⟨_,rfl⟩
 have hcl:=ZaF (Z2o V) h.gaps
 have hcn:=Z86 (Z2o V) h.gaps
 have hcm:=ZaG hgl (Z2o V)
 rw [← hCU] at hcc hcut hshut hcl hcn hcm ⊢
 refine pur 1 rfl (sqt 4 rfl (pur 1 rfl (sp rfl (PE.lenSl ZT rfl) rfl (pur 2 rfl ?_))))
 refine Z1 rfl ?_ ?_<;>intro hc1<;>try simp only [cS] at hc1
 refine sqt 4 rfl (pur 1 rfl ?_)
 refine bsl (out:=[_]) rfl ZiQ Zc2 rfl rfl rfl rfl rfl rfl (fun b40=>?_)
 refine pur 2 rfl (Z5 ?_)
 refine Sy.heap (fun w h9=>St.rows (sz:=1) (rows:=Z08 [⟨a,c,CU⟩]) (rest:=[]) (h9.pull b40) (by simp [Z08,Z9e])) ?_
 refine Sy.heap (fun w h9=>St.inn0 h9) ?_
 refine Sy.heap (fun w h9=>(show St _ (Inn [⟨a,c,CU⟩]::_) w from St.innSnoc (l:=[]) ⟨a,c,CU⟩ h9)) ?_
 exact rtB rfl rfl rfl rfl ⟨rfl,.inr (.inr ⟨hre,[msk CU],[⟨a,c,CU⟩],some ⟨b40,0,none⟩,1,by show [CU]=[Z2U (msk CU)];rw [hcm],by show 1≤8;decide,Nat.le_refl _,fun l hl=>by rw [List.mem_singleton.1 hl];exact hcl,RunP.once hshut hcl (by omega),by show Lst _ (cnt _ _+0);rw [hcn];exact Cut.plan hw7 hS7 hcut (by omega),rfl,rfl⟩)⟩ (fun w h9=>St.sub ((h9.del mm).del b4))
 refine Z2 (sqt 5 rfl (pur 1 rfl ?_))
 refine clV rfl ZdU rfl rfl (Zgu fr (fun k hk=>by have:=q1 k hk;omega) hlf af cf _ _) ?_
 refine sp rfl (PE.build (out:=[_,_]) Z7w Z3L rfl rfl) rfl (alc rfl Z3L rfl (fun b13=>?_))
 refine ZB (l':=plc (msk fr) (0)) rfl rfl rfl Z7d rfl rfl rfl rfl (nl rfl) ?_
 refine Z0 (sqt 4 rfl (pur 1 rfl ?_))
 refine ZH mm ?_
 refine spL rfl rfl (lhA (plc (msk fr) 0) Z0W rfl rfl rfl) rfl ?_
 refine cl rfl Z7Z rfl rfl (Z50 (rcD h ag as_ cg cs to_ spd bd br mm) (Z1m h ag as_ cg cs hb.ok bd) hK hsp 128 (msk fr) (0) [] _ _ hS7 (by decide) (by omega) (Memo.nil _ _ _)) ?_
 rintro _ _ R1 ⟨n,l0,lost,kv,rfl,hbs,hme,rfl,hR1⟩
 obtain rfl:=hR1.symm
 clear hR1
 rw [show svv n l0 lost = .agg (svl n l0 lost).toArray from rfl]
 refine sp rfl (PE.fieldV (vs:=svl n l0 lost) (show fTy Tryz.prog 326 2=some (4,2) from by kernel_rfl) sc4 rfl rfl) rfl ?_
 refine Z1 rfl ?_ ?_<;>intro hc2
 obtain rfl:lost=true:=hc2
 have hnp:=(hbs.resolve_right (fun h=>by cases h.1)).2.2.2
 refine sqt 2 rfl (pur 2 rfl (Z5 ?_))
 exact rtB rfl rfl rfl rfl ⟨rfl,.inr (.inl ⟨hre,hnp,rfl,rfl⟩)⟩ (fun w h9=>St.sub (((h9.del mm).del b13).del b4))
 obtain rfl:lost=false:=hc2
 have hls:=(hbs.resolve_left (fun h=>by cases h.1)).2.2.1
 clear hbs
 refine Z2 (sqt 1 rfl (pur 1 rfl (Z3 ?_)))
 skip
 refine Sy.heap (fun w h9=>St.inn0 h9) ?_
 refine Zb (ι:=(x:{x:List Nat×List PL×Nat×Nat×KV // lls x.2.1=x.1.map Z2U∧(∀ l∈x.1,l<2 ^ h.gaps.length)∧Seg h.gaps (msk to_) spd.toNat (msk fr) 0 x.1 x.2.2.1 x.2.2.2.1∧x.1.length≤cnt 7 x.2.2.1∧(∃ k,Lst (Pl h.gaps (msk to_) spd.toNat x.2.2.1 x.2.2.2.1) k∧Lst (Pl h.gaps (msk to_) spd.toNat (msk fr) 0) (Zc9 h.gaps x.1+k))∧Memo h.gaps (msk to_) spd.toNat x.2.2.2.2})×OSl 23 1 (Z08 x.1.2.1)) (fun y=>⟨[(4,.pointer (some ⟨b4,0,none⟩)),(10,.pointer (some ⟨br,0,none⟩)),(13,.pointer (some ⟨b13,0,none⟩)),(14,y.2.fs)],y.2.G++((mm,Z0q true y.1.1.2.2.2.2)::(b13,cel 324 (plc y.1.1.2.2.1 y.1.1.2.2.2.1))::(b4,cel 95 (htl h (h.sg ag cg) (h.ss as_ cs)))::H),Inn y.1.1.2.1::RowsA (some ⟨br,0,none⟩) 4 [(rcD h ag as_ cg cs to_ spd bd br mm).row]::RowsA (some ⟨bd,0,none⟩) 4 [(dkA h ag as_ cg cs bd).row]::R⟩) (fun y=>128-y.1.1.2.2.1) ⟨⟨([],[],msk fr,0,kv),rfl,(fun l hl=>by cases hl),⟨rfl,rfl⟩,Nat.zero_le _,⟨n,hls,by show Lst _ (0+n);rw [Nat.zero_add];exact hls⟩,hme⟩,OSl.nil _ _⟩ ?_ (fun y=>?_)
 exact Ze (fun w h9=>St.sub h9)
 clear hme hls
 obtain ⟨⟨⟨ls,pl,m,c,kv⟩,hll,hlb,hseg,hlm,⟨k,hk,hN⟩,hme⟩,o⟩:=y
 dsimp only at hll hlb hseg hlm hk hN hme o ⊢
 have hmc:=hseg.lt hw7 hS7 (Nat.two_pow_pos _)
 have hm7:=hmc.1
 have hm128:m<128:=hm7
 have hc10:c<2 ^ 10:=Nat.lt_of_lt_of_le hmc.2 (Nat.pow_le_pow_right (by decide) hgl)
 have hc79:=Z4a 7 m
 have hpl:pl.length=ls.length:=by have:=congrArg List.length hll;rw [Z7q,List.length_map] at this;exact this
 refine Z3 (sqt 5 rfl (pur 1 rfl (spL rfl rfl (lhA (plc m c) Z0W rfl rfl rfl) rfl ?_)))
 refine ZH mm ?_
 refine cl rfl Z7Z rfl rfl (Z50 (rcD h ag as_ cg cs to_ spd bd br mm) (Z1m h ag as_ cg cs hb.ok bd) hK hsp 128 (m) (c) kv _ _ hm7 hc10 (by omega) hme) ?_
 rintro _ _ R1 ⟨n9,l,lost,kv2,rfl,hbs,hme2,rfl,hR1⟩
 obtain rfl:=hR1.symm
 clear hR1
 obtain ⟨hlo,hn10,hlst,hcnd⟩:=hbs.resolve_left (fun h=>h.2.2.2 k hk.1)
 obtain rfl:=hlo
 have hnk:=hlst.unique hk
 have hwk:=hcnd.wk
 have hl10:l<2 ^ 10:=Nat.lt_of_lt_of_le hwk.1 (Nat.pow_le_pow_right (by decide) hgl)
 have hc210:=Zbp hc10 hl10
 refine alc rfl Z4N rfl (fun b15=>?_)
 refine ZB (l':=svl n9 l false) rfl rfl rfl Z0P rfl rfl rfl rfl (nl rfl) ?_
 refine sqt 7 rfl (pur 1 rfl (sp rfl (PE.fA Z7l rfl) rfl (spL rfl rfl (lh sc3 rfl rfl) rfl ?_)))
 refine cl rfl ZdV rfl rfl (ZdE l hl10 _ _) ?_
 rintro _ _ _ ⟨o9,rfl,rfl,rfl⟩
 obtain ⟨ao,co,heo,hfz⟩:=o9.freeze
 rw [heo,irl]
 refine Sy.heap (fun w h=>hfz h) ?_
 clear hfz heo
 refine bsl (out:=[_]) rfl ZiQ Zc2 rfl rfl rfl rfl rfl rfl (fun b55=>?_)
 refine apO (o) rfl Zkr rfl rfl (ZU (row:=Z9e ⟨ao,co,Z2U l⟩) rfl) rfl rfl ((by rw [Z1t];simp only [List.length_singleton];omega)) rfl (fun o56=>?_)
 refine pur 1 rfl (Z0 ?_)
 refine Zd [0,0,2,0,8,0,32,120,254,511,0,1024,0,4096,15360,32767,0,131071] (.tk 0 (.tk 1 (.ld 2 (.tk 3 (.ld 4 (.tk 5 (.ld 6 (.tk 7 (.tk 8 (.tk 10 (.ld 11 (.tk 12 (.ld 13 (.tk 14 (.any (.alt 9 (.tk 15 (.big 16 (.big 17 .done))) (.alt 16 (.big 9 (.tk 15 (.big 17 .done))) .stop))))))))))))))))) Zt (by kernel_rfl) ?_
 refine Sy.heap (fun w h=>St.innSnoc (l:=pl) ⟨ao,co,Z2U l⟩ h) ?_
 refine Zm 1 rfl (tk rfl (PE.fA Z02 rfl) rfl (ld rfl rfl (lh sc3 rfl rfl) rfl (tk rfl (PE.fA Z3d rfl) rfl (ld rfl rfl (lh sc3 rfl rfl) rfl (tk rfl (PE.fA Z7l rfl) rfl (ld rfl rfl (lh sc3 rfl rfl) rfl (tk rfl (PE.orN (m:=c) (n:=l) rfl rfl (Zeb hc10 (Nat.le_refl _)) (Zeb hl10 (Nat.le_refl _))) rfl (tk rfl (PE.build (out:=[_,_]) Z7w Z3L rfl rfl) rfl (tk rfl (PE.fA Z3d rfl) rfl (ld rfl rfl (lh sc3 rfl rfl) rfl (tk rfl (PE.fA Z7l rfl) rfl (ld rfl rfl (lh sc3 rfl rfl) rfl (tk rfl (PE.orN (m:=c) (n:=l) rfl rfl (Zeb hc10 (Nat.le_refl _)) (Zeb hl10 (Nat.le_refl _))) rfl ?_)))))))))))))
 refine ZI ?_ ?_
 refine clV rfl Z80 rfl rfl (Z3Q (rcD h ag as_ cg cs to_ spd bd br mm) (Z1m h ag as_ cg cs hb.ok bd) m (c|||l) hm7 hc210 _ _) ?_
 refine bg (fun w hs=>⟨(lh sc3 rfl rfl) w hs,(lh sc3 rfl rfl) w hs,trivial,trivial,trivial,trivial⟩) ?_
 refine tk rfl (PE.build (out:=[_,_]) Z7w Z3L rfl rfl) rfl (alc rfl Z3L rfl (fun b16=>?_))
 refine bg (fun w hs=>⟨(lh sc3 rfl rfl) w hs,(lh sc3 rfl rfl) w hs,trivial⟩) ?_
 refine ZB (l':=plc ((spr h.gaps (c|||l) m)) ((c|||l))) rfl rfl rfl Z7d rfl rfl rfl rfl (nl rfl) ?_
 refine bgT (Z0 (sqt 5 rfl (sp rfl (PE.fA Z02 rfl) rfl (spL rfl rfl (lh sc3 rfl rfl) rfl (sp rfl (PE.fA Z02 rfl) rfl (spL rfl rfl (lh sc3 rfl rfl) rfl (pur 1 rfl ?_)))))))
 refine Z1 rfl ?_ ?_<;>intro hc3<;>try simp only [cS] at hc3
 have he2:(spr h.gaps (c|||l) m)=m:=by omega
 have hnl:n9=cnt h.gaps.length l:=by
   rcases hcnd.2.2.2 with ⟨_,h5⟩ | ⟨h5,_⟩
   · exact h5
   · exact absurd he2 h5
 obtain ⟨ac,cc,hfe,hcc9,hff⟩:=(o56.cast (Z2e pl ⟨ao,co,Z2U l⟩)).freezeC
 rw [Z1t] at hcc9 hfe
 rw [show o56.fs=_ from hfe]
 refine Sy.heap (fun w h=>hff (St.pullG o56.G h)) ?_
 refine sqt 3 rfl (pur 3 rfl (Z5 ?_))
 exact rtB rfl rfl rfl rfl ⟨rfl,.inr (.inr ⟨hre,ls++[l],pl++[⟨ao,co,Z2U l⟩],ac,cc,by rw [Z5D,hll,List.map_append];rfl,by rw [List.length_append,List.length_singleton];omega,hcc9,fun x hx=>(List.mem_append.1 hx).elim (hlb x) (fun h=>by rw [List.mem_singleton.1 h];exact hwk.1),RunP.stop hseg hcnd he2,by rw [Z21,← hnl,hnk];exact hN,rfl,rfl⟩)⟩ (fun w h9=>St.sub (((((h9.del b16).del b55).del b15).del mm).del b13 |>.del b4))
 have he2:(spr h.gaps (c|||l) m)≠m:=by omega
 have hgr:=Z3U he2
 have hcg9:=Z84 hw7 hm7 he2
 obtain ⟨k2,hn2,hk2⟩:∃ k2,n9=cnt h.gaps.length l+k2∧Lst (Pl h.gaps (msk to_) spd.toNat (spr h.gaps (c|||l) m) (c|||l)) k2:=by
   rcases hcnd.2.2.2 with ⟨h5,_⟩ | ⟨_,k2,h6,h7⟩
   · exact absurd h5 he2
   · exact ⟨k2,h6,h7⟩
 refine Z2 (sqr 2 rfl (spL rfl rfl (lhA (plc (spr h.gaps (c|||l) m) (c|||l)) Z0W rfl rfl rfl) rfl ?_))
 refine ZB (l':=plc ((spr h.gaps (c|||l) m)) ((c|||l))) rfl rfl rfl Z7d rfl rfl rfl rfl (nl rfl) ?_
 exact Z7 ⟨⟨(ls++[l],pl++[⟨ao,co,Z2U l⟩],(spr h.gaps (c|||l) m),(c|||l),kv2),by rw [Z5D,hll,List.map_append];rfl,fun x hx=>(List.mem_append.1 hx).elim (hlb x) (fun h=>by rw [List.mem_singleton.1 h];exact hwk.1),hseg.snoc hwk,by dsimp only;rw [List.length_append,List.length_singleton];omega,⟨k2,hk2,by dsimp only;rw [Z21,Nat.add_assoc,← hn2,hnk];exact hN⟩,hme2⟩,o56.cast (Z2e pl ⟨ao,co,Z2U l⟩)⟩ (fun w h=>St.sub ((((h.del b16).del b55).del b15).perm (Zo [_] o56.G _)))
 refine ZI ?_ ?_
 refine alc rfl Z3L rfl (fun b16=>?_)
 refine bg (fun w hs=>⟨(lh sc3 rfl rfl) w hs,(lh sc3 rfl rfl) w hs,(lh sc3 rfl rfl) w hs,(lh sc3 rfl rfl) w hs,(lh sc3 rfl rfl) w hs,trivial⟩) ?_
 refine clV rfl Z80 rfl rfl (Z3Q (rcD h ag as_ cg cs to_ spd bd br mm) (Z1m h ag as_ cg cs hb.ok bd) m (c|||l) hm7 hc210 _ _) ?_
 refine bg (fun w hs=>⟨(lh sc3 rfl rfl) w hs,(lh sc3 rfl rfl) w hs,trivial,trivial,trivial,trivial⟩) ?_
 refine tk rfl (PE.build (out:=[_,_]) Z7w Z3L rfl rfl) rfl ?_
 refine ZB (l':=plc ((spr h.gaps (c|||l) m)) ((c|||l))) rfl rfl rfl Z7d rfl rfl rfl rfl (nl rfl) ?_
 refine bgT (Z0 (sqt 5 rfl (sp rfl (PE.fA Z02 rfl) rfl (spL rfl rfl (lh sc3 rfl rfl) rfl (sp rfl (PE.fA Z02 rfl) rfl (spL rfl rfl (lh sc3 rfl rfl) rfl (pur 1 rfl ?_)))))))
 refine Z1 rfl ?_ ?_<;>intro hc3<;>try simp only [cS] at hc3
 have he2:(spr h.gaps (c|||l) m)=m:=by omega
 have hnl:n9=cnt h.gaps.length l:=by
   rcases hcnd.2.2.2 with ⟨_,h5⟩ | ⟨h5,_⟩
   · exact h5
   · exact absurd he2 h5
 obtain ⟨ac,cc,hfe,hcc9,hff⟩:=(o56.cast (Z2e pl ⟨ao,co,Z2U l⟩)).freezeC
 rw [Z1t] at hcc9 hfe
 rw [show o56.fs=_ from hfe]
 refine Sy.heap (fun w h=>hff (St.pullG o56.G h)) ?_
 refine sqt 3 rfl (pur 3 rfl (Z5 ?_))
 exact rtB rfl rfl rfl rfl ⟨rfl,.inr (.inr ⟨hre,ls++[l],pl++[⟨ao,co,Z2U l⟩],ac,cc,by rw [Z5D,hll,List.map_append];rfl,by rw [List.length_append,List.length_singleton];omega,hcc9,fun x hx=>(List.mem_append.1 hx).elim (hlb x) (fun h=>by rw [List.mem_singleton.1 h];exact hwk.1),RunP.stop hseg hcnd he2,by rw [Z21,← hnl,hnk];exact hN,rfl,rfl⟩)⟩ (fun w h9=>St.sub (((((h9.del b16).del b55).del b15).del mm).del b13 |>.del b4))
 have he2:(spr h.gaps (c|||l) m)≠m:=by omega
 have hgr:=Z3U he2
 have hcg9:=Z84 hw7 hm7 he2
 obtain ⟨k2,hn2,hk2⟩:∃ k2,n9=cnt h.gaps.length l+k2∧Lst (Pl h.gaps (msk to_) spd.toNat (spr h.gaps (c|||l) m) (c|||l)) k2:=by
   rcases hcnd.2.2.2 with ⟨h5,_⟩ | ⟨_,k2,h6,h7⟩
   · exact absurd h5 he2
   · exact ⟨k2,h6,h7⟩
 refine Z2 (sqr 2 rfl (spL rfl rfl (lhA (plc (spr h.gaps (c|||l) m) (c|||l)) Z0W rfl rfl rfl) rfl ?_))
 refine ZB (l':=plc ((spr h.gaps (c|||l) m)) ((c|||l))) rfl rfl rfl Z7d rfl rfl rfl rfl (nl rfl) ?_
 exact Z7 ⟨⟨(ls++[l],pl++[⟨ao,co,Z2U l⟩],(spr h.gaps (c|||l) m),(c|||l),kv2),by rw [Z5D,hll,List.map_append];rfl,fun x hx=>(List.mem_append.1 hx).elim (hlb x) (fun h=>by rw [List.mem_singleton.1 h];exact hwk.1),hseg.snoc hwk,by dsimp only;rw [List.length_append,List.length_singleton];omega,⟨k2,hk2,by dsimp only;rw [Z21,Nat.add_assoc,← hn2,hnk];exact hN⟩,hme2⟩,o56.cast (Z2e pl ⟨ao,co,Z2U l⟩)⟩ (fun w h=>St.sub ((((h.del b16).del b55).del b15).perm (Zo [_] o56.G _)))
 exact Z0f
end Go.Proofs.YtcfdanhklbklkaaGreat.Wv
