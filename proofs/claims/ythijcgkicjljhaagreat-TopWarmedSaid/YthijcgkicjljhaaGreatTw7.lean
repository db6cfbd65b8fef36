/- Walks of the functions of the program, and the laws that join them: what the last theorem of this claim needs, in order. -/
import Derived.Test.YthijcgkicjljhaaGreatTw6
namespace Go.Proofs.YthijcgkicjljhaaGreat
set_option linter.unusedSimpArgs false
set_option linter.unusedVariables false
open Go
theorem Z3U:Z1g Tryz.prog 26=some 9:=by kernel_rfl
theorem ZeM:Z1g Tryz.prog 36=some 4:=by kernel_rfl
theorem Zke:apT Tryz.prog 31=some (26,9,88):=by kernel_rfl
theorem ZiB:cal Tryz.prog 10=true:=by kernel_rfl
theorem Zfq:cal Tryz.prog 11=true:=by kernel_rfl
theorem ZiC:cal Tryz.prog 12=true:=by kernel_rfl
theorem ZiD:cal Tryz.prog 13=true:=by kernel_rfl
theorem ZiE:cal Tryz.prog 14=true:=by kernel_rfl
theorem Zds:cal Tryz.prog 15=true:=by kernel_rfl
theorem ZiF:cal Tryz.prog 16=true:=by kernel_rfl
theorem Zdv:cal Tryz.prog 42=true:=by kernel_rfl
theorem Zkl:cal Tryz.prog 5=true:=by kernel_rfl
theorem Zk8:cal Tryz.prog 6=true:=by kernel_rfl
theorem Zkm:cal Tryz.prog 7=true:=by kernel_rfl
theorem Zkn:cal Tryz.prog 8=true:=by kernel_rfl
theorem Zdx:cal Tryz.prog 84=true:=by kernel_rfl
theorem Zko:cal Tryz.prog 9=true:=by kernel_rfl
theorem Zjn:ZB Tryz.prog 24=some 1:=by kernel_rfl
theorem ZeO:ZB Tryz.prog 26=some 9:=by kernel_rfl
theorem Zib:ZB Tryz.prog 36=some 4:=by kernel_rfl
theorem Z9u:ZB Tryz.prog 43=some 2:=by kernel_rfl
theorem Zct:elN Tryz.prog 24=some 4:=by kernel_rfl
theorem Zic:elN Tryz.prog 31=some 9:=by kernel_rfl
theorem Zkr:elN Tryz.prog 53=some 1:=by kernel_rfl
theorem ZX:ZT Tryz.prog 26 3=some 8:=by kernel_rfl
theorem Z5E:ZT Tryz.prog 36 0=some 0:=by kernel_rfl
theorem Z3v:ZT Tryz.prog 36 1=some 1:=by kernel_rfl
theorem ik3:Z7Y Tryz.prog 3=some .i64:=by kernel_rfl
theorem Z1E:Z2n Tryz.prog 24=true:=by kernel_rfl
theorem Zhp:Z2n Tryz.prog 31=true:=by kernel_rfl
theorem Zjx:Z2n Tryz.prog 53=true:=by kernel_rfl
theorem Z31:Z0g Tryz.prog 24=true:=by kernel_rfl
theorem Z8k:Z0g Tryz.prog 30=true:=by kernel_rfl
theorem ZkA:slE Tryz.prog 53=some (30,1):=by kernel_rfl
theorem us5:(Tryz.prog.underlying 5).isSome=true:=by kernel_rfl
theorem ZeI:Zw Tryz.prog 26=some ([.int .i64 0,.int .i64 0,.int .i64 0,.int .i64 0,.int .i64 0,.int .i64 0,.int .i64 0,.int .i64 0,.slice none 0 0]):=by kernel_rfl
theorem ZkB:Zw Tryz.prog 30=some ([.slice none 0 0]):=by kernel_rfl
theorem ZeJ:Zw Tryz.prog 36=some ([.int .i64 0,.int .i64 0,.int .i64 0,.int .i64 0]):=by kernel_rfl
namespace Ht
structure WB where
 b:Nat
 ws:List Int
 cap:Nat
 junk:List Value
def WB.key (x:WB):Nat×Nat:=(x.b,x.cap)
def DW (bs:List HBin) (l:List WB):Z7:=l.map fun x=>(x.b,cel 36 ((Zt (ZK bs x.ws)).flatten++x.junk))
theorem Z8m {bs:List HBin}:∀ {l:List WB} {k:Nat} {x:WB},l[k]?=some x→(DW bs l).Perm ((x.b,cel 36 ((Zt (ZK bs x.ws)).flatten++x.junk))::DW bs (l.eraseIdx k))
 | y::l,0,x,h=>by
   simp only [List.getElem?_cons_zero,Option.some.injEq] at h
   subst h;exact .refl _
 | y::l,k+1,x,h=>by
   have ih:=Z8m (bs:=bs) (l:=l) (k:=k) (x:=x) (by simpa using h)
   exact (List.Perm.cons _ ih).trans (.swap _ _ _)
theorem Z8n {bs:List HBin}:∀ {l:List WB} {k:Nat} {x:WB},k<l.length→((x.b,cel 36 ((Zt (ZK bs x.ws)).flatten++x.junk))::DW bs (l.eraseIdx k)).Perm (DW bs (l.set k x))
 | y::l,0,x,h=>.refl _
 | y::l,k+1,x,h=>by
   have ih:=Z8n (bs:=bs) (l:=l) (k:=k) (x:=x) (by simpa using h)
   exact (List.Perm.swap _ _ _).trans (List.Perm.cons _ ih)
theorem ZcY (bs:List HBin) (l:List WB) (x:WB) (X:Z7):((x.b,cel 36 ((Zt (ZK bs x.ws)).flatten++x.junk))::(DW bs l++X)).Perm (DW bs (l++[x])++X):=by
 have e:DW bs (l++[x])=DW bs l++[(x.b,cel 36 ((Zt (ZK bs x.ws)).flatten++x.junk))]:=by simp [DW]
 rw [e,List.append_assoc]
 exact List.perm_middle.symm
def WBs (bs:List HBin) (l:List WB):World→Prop:=fun w=>∀ x∈l,RowsA (some ⟨x.b,0,none⟩) 4 (Zt (ZK bs x.ws)) w
theorem St.wbs {bs:List HBin}:∀ {l:List WB} {H:Z7} {R:Z4} {w:World},St (DW bs l++H) R w→St H (WBs bs l::R) w
 | [],H,R,w,h=>St.also h (f:=WBs bs []) (fun w9 _ x hx=>by cases hx)
 | x::l,H,R,w,h=>by
   have h1:St (DW bs l++H) (RowsA (some ⟨x.b,0,none⟩) 4 (Zt (ZK bs x.ws))::R) w:=St.blkRows (Z8A _) h
   have h2:=St.wbs h1
   have h3:=h2.also (f:=WBs bs (x::l)) (fun w9 hw y hy=>by
     rcases List.mem_cons.1 hy with rfl | hy
     · exact hw _ (by simp)
     · exact hw (WBs bs l) (by simp) y hy)
   exact h3.facts (fun g hg=>by simp only [List.mem_cons] at hg ⊢;rcases hg with h8 | h8<;>simp [h8])
theorem St.wbAt {b:Barn} {l:List WB} {x:WB} {H:Z7} {R:Z4} {w:World} [m:MemF (WBs b.bins l) R] (h:St H R w) (hx:x∈l):St H (RowsA (some ⟨x.b,0,none⟩) 4 (Zt (b.withB (ZK b.bins x.ws)).bins)::R) w:=h.also fun _ hw=>hw _ m.mem x hx
def ZeP (b:Barn) (p:Nat×Nat):List Value:=btl b (.slice (some ⟨p.1,0,none⟩) b.bins.length p.2)
abbrev Z0y (b:Barn) (K:List (Nat×Nat)):List (List Value):=K.map (ZeP b)
theorem Z3B (b:Barn) (K:List (Nat×Nat)):∀ r∈Z0y b K,r.length=9:=fun r hr=>by obtain ⟨y,_,rfl⟩:=List.mem_map.1 hr;rfl
theorem Z7o (b:Barn) (K:List (Nat×Nat)):(Z0y b K).flatten.length=K.length*9:=by rw [ZH (Z3B b K),List.length_map]
theorem ZcE {b:Barn} {K:List (Nat×Nat)} {j:Nat} {p:Nat×Nat} (h:K[j]?=some p):(Z0y b K)[j]?=some (ZeP b p):=by rw [List.getElem?_map,h];rfl
theorem Z6D {l:List WB} {K:List (Nat×Nat)} (h:l.map WB.key=K) {j:Nat} {x:WB} (hx:l[j]?=some x):K[j]?=some x.key:=by rw [← h,List.getElem?_map,hx];rfl
theorem ZdT {b:Barn} {x:WB} (h:x.ws.length=b.bins.length):ZeP b x.key=btl (b.withB (ZK b.bins x.ws)) ((b.withB (ZK b.bins x.ws)).sl (some ⟨x.b,0,none⟩) x.cap):=by
 unfold ZeP Barn.sl
 rw [show (b.withB (ZK b.bins x.ws)).bins.length=b.bins.length from Z0F h];rfl
theorem ZdQ {l:List WB} {K:List (Nat×Nat)} (h:l.map WB.key=K) {j:Nat} {x:WB} (hx:l[j]?=some x) (ws:List Int):(l.set j { x with ws:=ws }).map WB.key=K:=by
 rw [List.map_set,h]
 exact List.ext_getElem? fun i=>by
   rw [List.getElem?_set]
   split
   · rename_i e
     subst e
     have:=Z6D h hx
     rw [this]
     split
     · rfl
     · rename_i h9
       exact absurd (List.getElem?_eq_some_iff.1 this).1 h9
   · rfl
structure Ord4 (b:Barn) (l:List WB):Prop where
 len:l.length=4
 cool:∀ x∈l,Cool b x.ws
 less:∀ j x y,l[j]?=some x→l[j+1]?=some y→∀ k,na y.ws k≤na x.ws k
def wrm (x:HBin) (v:Int):Int:=min x.mark (5*min 9 (max 0 v))
structure Wrm (b:Barn) (i j:Nat) (vs:Nat→Int) (l l2:List WB):Prop where
 len:l2.length=l.length
 at_:∀ q x,l[q]?=some x→l2[q]?=some (if q<j then { x with ws:=x.ws.set i (vs q) } else x)
theorem Wrm.refl (b:Barn) (i:Nat) (vs:Nat→Int) (l:List WB):Wrm b i 0 vs l l:=⟨rfl,fun q x h=>by rw [if_neg (by omega)];exact h⟩
theorem Wrm.step {b:Barn} {i j:Nat} {vs:Nat→Int} {l l2:List WB} (h:Wrm b i j vs l l2) {x:WB} (hx:l2[j]?=some x):Wrm b i (j+1) vs l (l2.set j { x with ws:=x.ws.set i (vs j) }):=by
 refine ⟨by rw [List.length_set];exact h.len,fun q y hy=>?_⟩
 have h1:=h.at_ q y hy
 rw [List.getElem?_set]
 by_cases e:j=q
 · subst e
   rw [if_neg (by omega)] at h1
   rw [h1] at hx;cases hx
   rw [if_pos rfl,if_pos (List.getElem?_eq_some_iff.1 h1).1,if_pos (by omega)]
 · rw [if_neg e,h1]
   by_cases e2:q<j
   · rw [if_pos e2,if_pos (by omega)]
   · rw [if_neg e2,if_neg (by omega)]
theorem Z6I {l:List Int} {i k:Nat} {v:Int}:na (l.set i v) k=if i=k∧i<l.length then v else na l k:=by
 unfold na
 rw [List.getD_eq_getElem?_getD,List.getD_eq_getElem?_getD,List.getElem?_set]
 by_cases e:i=k
 · subst e
   by_cases h:i<l.length
   · rw [if_pos rfl,if_pos h,if_pos ⟨rfl,h⟩];rfl
   · rw [if_pos rfl,if_neg h,if_neg (fun h9=>h h9.2),List.getElem?_eq_none (by omega)]
 · rw [if_neg e,if_neg (fun h9=>e h9.1)]
theorem Ord4.next {b:Barn} {l l2:List WB} (h:Ord4 b l) {i:Nat} {x:HBin} (hx:b.bins[i]?=some x) {vs:Nat→Int} (hw:Wrm b i 4 vs l l2) (hv:∀ q,q<4→0≤vs q∧vs q≤x.mark) (hd:∀ q,q<3→vs (q+1)≤vs q):Ord4 b l2:=by
 have hat:∀ q y,l2[q]?=some y→∃ z,l[q]?=some z∧q<4∧y={ z with ws:=z.ws.set i (vs q) }:=fun q y hy=>by
   have hq:q<l.length:=by rw [← hw.len];exact (List.getElem?_eq_some_iff.1 hy).1
   obtain ⟨z,hz⟩:∃ z,l[q]?=some z:=⟨_,List.getElem?_eq_getElem hq⟩
   have h1:=hw.at_ q z hz
   rw [h.len] at hq
   rw [if_pos hq,hy] at h1
   cases h1
   exact ⟨z,hz,hq,rfl⟩
 refine ⟨by rw [hw.len];exact h.len,fun y hy=>?_,fun q y z hy hz k=>?_⟩
 · obtain ⟨q,hq⟩:=List.mem_iff_getElem?.1 hy
   obtain ⟨z,hz,hq4,rfl⟩:=hat q y hq
   have hc:=h.cool z (List.mem_of_getElem? hz)
   refine ⟨by rw [List.length_set];exact hc.len,fun k u hu=>?_⟩
   have h2:=hc.at_ k u hu
   rw [Z6I]
   split
   · rename_i e
     obtain ⟨rfl,_⟩:=e
     rw [hx] at hu;cases hu
     exact hv q hq4
   · exact h2
 · obtain ⟨y0,hy0,hq4,rfl⟩:=hat q y hy
   obtain ⟨z0,hz0,hq5,rfl⟩:=hat (q+1) z hz
   have h1:=h.less q y0 z0 hy0 hz0 k
   have hc1:=(h.cool y0 (List.mem_of_getElem? hy0)).len
   have hc2:=(h.cool z0 (List.mem_of_getElem? hz0)).len
   dsimp only
   rw [Z6I,Z6I,hc1,hc2]
   split
   · exact hd q (by omega)
   · exact h1
theorem ZeD (l:List HBin):ZK l (l.map (·.warm))=l:=by
 unfold ZK
 induction l with
 | nil=>rfl
 | cons x l ih=>rw [List.map_cons,List.zipWith_cons_cons,ih]
theorem Z9v {b:Barn} (hok:b.ok):Cool b b.warms:=⟨by simp [Barn.warms],fun k x hx=>by
 have h:=hok.bins x (List.mem_of_getElem? hx)
 rw [show na b.warms k=x.warm from by unfold na Barn.warms;rw [List.getD_eq_getElem?_getD,List.getElem?_map,hx];rfl]
 exact h.2.1⟩
theorem ZaF {l:List HBin} {ws:List Int} {i:Nat} {x:HBin} (hl:ws.length=l.length) (hx:l[i]?=some x) (v:Int):ZK l (ws.set i v)=(ZK l ws).set i { x with warm:=v }:=by
 refine List.ext_getElem? fun q=>?_
 have hi:=(List.getElem?_eq_some_iff.1 hx).1
 rw [List.getElem?_set,Z0F hl]
 unfold ZK
 rw [List.getElem?_zipWith,List.getElem?_zipWith,List.getElem?_set]
 by_cases e:i=q
 · subst e
   rw [if_pos rfl,if_pos rfl,if_pos (by omega),if_pos hi,hx]
 · rw [if_neg e,if_neg e]
theorem Zbo {b:Barn} (hok:b.ok) (hck:b.check=0) {ws us:List Int} (hw:Cool b ws) (hu:Cool b us) (h:∀ k,na us k≤na ws k):NoW (b.withB (ZK b.bins ws)) (b.withB (ZK b.bins us)):=by
 have h1:=Z34 hok hw
 have h2:=Z34 hok hu
 obtain ⟨l1,l2⟩:=Zht h1 h2 (Int.le_refl _) ((Z0F hw.len).trans (Z0F hu.len).symm) (fun j z z' e1 e2=>by
   have e1:(ZK b.bins ws)[j]?=some z:=e1
   have e2:(ZK b.bins us)[j]?=some z':=e2
   have hj:j<b.bins.length:=by rw [← Z0F hw.len];exact (List.getElem?_eq_some_iff.1 e1).1
   obtain ⟨y,hy⟩:∃ y,b.bins[j]?=some y:=⟨_,List.getElem?_eq_getElem hj⟩
   rw [Z2k hy (na_get (by rw [hw.len];exact hj))] at e1
   rw [Z2k hy (na_get (by rw [hu.len];exact hj))] at e2
   cases e1;cases e2
   refine ⟨Int.le_refl _,?_⟩
   have hr:0≤b.worst y:=(b.worst_range hok (List.mem_of_getElem? hy)).elim (fun e=>by omega) (fun e=>by omega)
   exact Z2s hr (h j))
 exact ⟨h2,Z4z h2 (show b.gangs≤3 from Z3j hck),l1,l2⟩
def Z73 (b:Barn) (l:List WB) (ds:List Int):Prop:=∀ (q:Nat) (v:Int),ds[q]?=some v→∃ x:WB,l[q]?=some x∧Kpt (b.withB (ZK b.bins x.ws)).dsk (b.withB (ZK b.bins x.ws)).state v
theorem Zbb {b:Barn} (hok:b.ok) (hck:b.check=0) {l:List WB} (h:Ord4 b l) {ds:List Int} (hd:Z73 b l ds):∀ q v v',ds[q]?=some v→ds[q+1]?=some v'→v≤v':=fun q v v' h1 h2=>by
 obtain ⟨x,hx,k1⟩:=hd q v h1
 obtain ⟨y,hy,k2⟩:=hd (q+1) v' h2
 have c1:=h.cool x (List.mem_of_getElem? hx)
 have c2:=h.cool y (List.mem_of_getElem? hy)
 exact (Zbo hok hck c1 c2 (h.less q x y hx hy)).kpt (Z34 hok c1) k1 k2
theorem Z9z {b:Barn} {l:List WB} {ds:List Int} (hd:Z73 b l ds) {x:WB} (hx:l[ds.length]?=some x) {v:Int} (hv:Kpt (b.withB (ZK b.bins x.ws)).dsk (b.withB (ZK b.bins x.ws)).state v):Z73 b l (ds++[v]):=fun q u hq=>by
 rw [List.getElem?_append] at hq
 split at hq
 · exact hd q u hq
 · rename_i h
   have h0:q-ds.length=0:=by
     have:=(List.getElem?_eq_some_iff.1 hq).1
     simp only [List.length_singleton] at this;omega
   rw [h0] at hq
   cases hq
   obtain rfl:q=ds.length:=by omega
   exact ⟨x,hx,hv⟩
def lmx:List Int→Int
 | []=>0
 | x::l=>l.foldl max x
theorem Z5F {l l':List Int} (hl:l.length=l'.length):∀ {a a':Int},a≤a'→(∀ k,k<l.length→na l k≤na l' k)→l.foldl max a≤l'.foldl max a':=by
 induction l generalizing l' with
 | nil=>intro a a' h _;rw [List.eq_nil_of_length_eq_zero hl.symm];exact h
 | cons x l ih =>
   intro a a' h hk
   cases l' with
   | nil=>cases hl
   | cons y l' =>
     rw [List.foldl_cons,List.foldl_cons]
     refine ih (by simpa using hl) ?_ (fun k h9=>hk (k+1) (by rw [List.length_cons];omega))
     have:x≤y:=hk 0 (by rw [List.length_cons];omega)
     omega
theorem Zhw {l l':List Int} (hl:l.length=l'.length) (h:∀ k,k<l.length→na l k≤na l' k):lmx l≤lmx l':=by
 cases l with
 | nil=>rw [List.eq_nil_of_length_eq_zero hl.symm];exact Int.le_refl _
 | cons x l =>
   cases l' with
   | nil=>cases hl
   | cons y l'=>exact Z5F (by simpa using hl) (h 0 (by rw [List.length_cons];omega)) (fun k h9=>h (k+1) (by rw [List.length_cons];omega))
theorem Zi2 {x:HBin} {u v:Int} (h:u≤v):wrm x u≤wrm x v:=by unfold wrm;omega
theorem Zi1 {x:HBin} (h:0≤x.mark) (v:Int):0≤wrm x v∧wrm x v≤x.mark:=by unfold wrm;omega
theorem Z5a {l:List Int} {n k:Nat} (h:k<n):na (l.take n) k=na l k:=by
 unfold na;rw [List.getD_eq_getElem?_getD,List.getD_eq_getElem?_getD,List.getElem?_take,if_pos h]
theorem Zaf (n:Nat):(Z1U n ([.int .i64 0,.int .i64 0,.int .i64 0,.int .i64 0,.int .i64 0,.int .i64 0,.int .i64 0,.int .i64 0,.slice none 0 0]:List Value)).length=n*9:=by
 rw [← Z0S,ZH (sz:=9) (fun q hq=>by rw [(List.mem_replicate.1 hq).2];rfl),List.length_replicate]
theorem Zee {P z vs:List Value} {n i:Nat} (hz:z.length=vs.length) (e:i=P.length):spl (P++Z1U (n+1) z) i vs=P++(vs++Z1U n z):=by
 subst e
 rw [← Z0S,List.replicate_succ,List.flatten_cons,Z0S]
 exact Zat hz
theorem ZhN {P Z:List Value} {b:Barn} {s0 s1:Value} {i:Nat} (e:i=P.length+8):spl (P++(btl b s0++Z)) i [s1]=P++(btl b s1++Z):=by
 subst e
 have h:=Zat (p:=P++(btl b s0).take 8) (q:=[s0]) (s:=Z) (vs:=[s1]) rfl
 rw [List.length_append] at h
 simpa [btl,List.append_assoc] using h
theorem ZdS (b:Barn) (K:List (Nat×Nat)) (p:Nat×Nat) (Z:List Value):(Z0y b K).flatten++(btl b (.slice (some ⟨p.1,0,none⟩) b.bins.length p.2)++Z)=(Z0y b (K++[p])).flatten++Z:=by
 rw [show Z0y b (K++[p])=Z0y b K++[ZeP b p] from by simp [Z0y],List.flatten_append,List.flatten_singleton,List.append_assoc];rfl
theorem Zhs {b:Barn} {K:List (Nat×Nat)} {j i:Nat} {p:Nat×Nat} (h:K[j]?=some p) (e:i=j*9+8):((Z0y b K).flatten)[i]?=some (.slice (some ⟨p.1,0,none⟩) b.bins.length p.2):=by
 subst e
 exact Z1B (sz:=9) (Z3B b K) (ZcE h) rfl
theorem ZaZ {l:List HBin} {junk:List Value} {k i:Nat} {x:HBin} (hx:l[k]?=some x) (v:Int) (e:i=k*4):spl ((Zt l).flatten++junk) i [.int .i64 v]=(Zt (l.set k { x with warm:=v })).flatten++junk:=by
 have hk:=(List.getElem?_eq_some_iff.1 hx).1
 rw [Zep (by rw [Z6c];simp only [List.length_singleton];omega),Zd7 hx v e]
theorem Za6 {b:Barn} (hok:b.ok) {l:List WB} (hl:l.length=4) (h:∀ x∈l,x.ws=b.warms):Ord4 b l:=⟨hl,fun x hx=>by rw [h x hx];exact Z9v hok,fun j x y hx hy k=>by rw [h x (List.mem_of_getElem? hx),h y (List.mem_of_getElem? hy)];exact Int.le_refl _⟩
structure Hts4 (n:Nat) (ms:List (List Int)):Prop where
 len:ms.length=4
 each:∀ m∈ms,m.length=n
 less:∀ q m m9,ms[q]?=some m→ms[q+1]?=some m9→∀ k,k<n→na m9 k≤na m k
theorem Hts4.max {n:Nat} {ms:List (List Int)} (h:Hts4 n ms) (x:HBin):∀ q,q<3→wrm x (lmx (ms.getD (q+1) []))≤wrm x (lmx (ms.getD q [])):=fun q hq=>by
 have hl:=h.len
 obtain ⟨m,hm⟩:∃ m,ms[q]?=some m:=⟨_,List.getElem?_eq_getElem (by omega)⟩
 obtain ⟨m9,hm9⟩:∃ m,ms[q+1]?=some m:=⟨_,List.getElem?_eq_getElem (by omega)⟩
 rw [List.getD_eq_getElem?_getD,List.getD_eq_getElem?_getD,hm,hm9]
 have e1:=h.each m (List.mem_of_getElem? hm)
 have e2:=h.each m9 (List.mem_of_getElem? hm9)
 exact Zi2 (Zhw (by show m9.length=m.length;omega) (fun k hk=>h.less q m m9 hm hm9 k (by have:k<m9.length:=hk;omega)))
theorem Zhx {b:Ro.Rb} (hb:b.ok) {hl:List Int} (t:Ro.RTru b (Ro.na hl)) {k:Nat} (hk:k<b.n):Ro.na (b.lstK b.n) k≤Ro.na hl k:=by
 have h25:=(Ro.Rb.lt hb hk).2.2
 rw [Ro.lstK_at h25,decide_eq_true hk,Bool.true_and]
 cases ha:b.aloneB k with
 | true=>have:=t.alone (Ro.Rb.alone_iff.1 ha);rw [cond_true];omega
 | false=>exact (t.ht k hk).1
theorem ZdM {C W:Nat} {rods rods2:List Ro.Rd} {hl:List Int} (h1:Ro.Rb.ok ⟨C,W,rods⟩) (h2:Ro.Rb.ok ⟨C,W,rods2⟩) (t2:Ro.RTru ⟨C,W,rods2⟩ (Ro.na hl)) (hlen:hl.length=C*W) (htop:∀ k,Ro.Rb.top ⟨C,W,rods2⟩ k≤Ro.Rb.top ⟨C,W,rods⟩ k) :
   Hts4 (C*W) [(Ro.Rb.topA ⟨C,W,rods⟩).take (C*W),(Ro.Rb.topA ⟨C,W,rods2⟩).take (C*W),hl,(Ro.Rb.lstK ⟨C,W,rods2⟩ (C*W)).take (C*W)]:=by
 have hn:=(Ro.Rb.n_le h1).2
 have hn2:C*W≤25:=hn
 refine ⟨rfl,fun m hm=>?_,fun q m m9 e1 e2 k hk=>?_⟩
 · simp only [List.mem_cons,List.not_mem_nil,or_false] at hm
   rcases hm with rfl | rfl | rfl | rfl
   · rw [List.length_take,show (Ro.Rb.topA ⟨C,W,rods⟩).length=25 from Ro.topK_len _ _];omega
   · rw [List.length_take,show (Ro.Rb.topA ⟨C,W,rods2⟩).length=25 from Ro.topK_len _ _];omega
   · exact hlen
   · rw [List.length_take,Ro.lstK_len];omega
 · match q,e1,e2 with
   | 0,e1,e2 =>
     cases e1;cases e2
     rw [Z5a hk,Z5a hk]
     have a1:=Ro.topA_top h1 (k:=k) hk
     have a2:=Ro.topA_top h2 (k:=k) hk
     have a3:=htop k
     show Ro.na _ k≤Ro.na _ k
     omega
   | 1,e1,e2 =>
     cases e1;cases e2
     rw [Z5a hk]
     have a2:=Ro.topA_top h2 (k:=k) hk
     have a3:=t2.top (k:=k) hk
     show Ro.na _ k≤Ro.na _ k
     omega
   | 2,e1,e2 =>
     cases e1;cases e2
     rw [Z5a hk]
     exact Zhx h2 t2 hk
   | 3,e1,e2=>cases e2
   | q+4,e1,e2=>cases e1
theorem Zdi (x y:Int) (H:Z7) (R:Z4) :
    FnV Tryz.prog 42 [.int .i64 x,.int .i64 y] H R (.bool (decide (x<y))):=by
 refine Z9 Tryz.func42 rfl Tryz.ntmps42 rfl ?_
 refine sqt 1 rfl (pur 1 rfl (sqt 13 rfl (pur 1 rfl ?_)))
 refine clV rfl Zdx rfl rfl (Z98 x _ _) ?_
 refine pur 11 rfl (Z5 ?_)
 exact rtA rfl rfl rfl ⟨rfl,rfl,rfl⟩ drp
theorem Z6e (xs:List Int) (a:Option Addr) (c:Nat) (hl:xs.length≤9223372036854775807) (hs:∀ q v v9,xs[q]?=some v→xs[q+1]?=some v9→v≤v9) (H:Z7) (R:Z4) [hR:MemRows a 1 (irows xs) R] :
    FnV Tryz.prog 15 [.slice a xs.length c] H R (.bool true):=by
 refine Z9 Tryz.func15 rfl Tryz.ntmps15 rfl ?_
 refine sqt 1 rfl (pur 1 rfl (Z0 (sqt 4 rfl (pur 1 rfl (sp rfl (PE.lenSl Z04 rfl) rfl (sp rfl (PE.sub rfl rfl (by omega)) rfl (pur 1 rfl (Z1 ?_))))))))
 refine Zc (ι:={k:Nat // k≤xs.length}) (fun k=>⟨[(0,.slice a xs.length c),(3,.int .i64 ((k.1:Int)-1))],H,R⟩) (fun k=>k.1) ⟨xs.length,Nat.le_refl _⟩ ?_ (fun k=>?_)
 exact Zf idH
 obtain ⟨k,hk⟩:=k
 dsimp only at hk ⊢
 refine Z0 (sqt 2 rfl (pur 2 rfl ?_))
 refine Z2 rfl ?_ ?_<;>intro hc0<;>try simp only [cS] at hc0
 obtain ⟨k,rfl⟩:∃ j,k=j+2:=⟨k-2,by omega⟩
 obtain ⟨y,hy⟩:∃ y,xs[k+1]?=some y:=⟨_,List.getElem?_eq_getElem (by omega)⟩
 obtain ⟨x,hx⟩:∃ x,xs[k]?=some x:=⟨_,List.getElem?_eq_getElem (by omega)⟩
 have hxy:x≤y:=hs k x y hx hy
 rw [show (((k+2:Nat):Int)-1)=(k+1:Nat) from by omega]
 refine Zl (a:=a) (sz:=1) (rows:=irows xs) (ne0 (by rw [Z3A];omega)) (fun b off he=>?_)
 subst he
 refine Z3 (Z0 (Z1 (Z0 ?_)))
 refine Zd [0,0,3,7,0,0,32,112,240,511] (tks 0 3 (.ld 3 (tks 4 4 (.ld 8 (.big 9 .done))))) Zq (by kernel_rfl) ?_
 refine Zm 2 rfl (tk rfl (PE.indexAddr Z3R rfl rfl (by omega) (by omega)) rfl (ld rfl rfl (lf0 (x:=.int .i64 y) sc3 (Z1s hy) rfl) rfl (Zm 2 rfl (tk rfl (PE.sub rfl rfl (by omega)) rfl (tk rfl (PE.indexAddr Z3R rfl rfl (by omega) (by omega)) rfl (ld rfl rfl (lf0 (x:=.int .i64 x) sc3 (by rw [show (((k+1:Nat):Int)-1).toNat=k from by omega];exact Z1s hx) rfl) rfl ?_))))))
 refine clV rfl Zdv rfl rfl (Zdi y x _ _) ?_
 refine bgT ?_
 refine Z2 rfl ?_ ?_<;>intro hc1
 exact absurd hc1 (by simp;omega)
 refine Z3 (sqr 3 rfl (pur 1 rfl (sp rfl (PE.sub rfl rfl (by omega)) rfl (pur 1 rfl ?_))))
 exact Zb ⟨k+1,by omega⟩ idH
 refine Z8 (Za (Za (Zn (sqt 1 rfl (pur 1 rfl (Z5 ?_))))))
 exact rtA rfl rfl rfl ⟨rfl,rfl,rfl⟩ drp
theorem Zf8 (xs:List Int) (n:Nat) (hn:xs.length=n) (a:Option Addr) (c:Nat) (h1:1≤n) (hl:n≤1000000) (H:Z7) (R:Z4) [hR:MemRows a 1 (irows xs) R] :
    FnV Tryz.prog 13 [.slice a n c] H R (.int .i64 (lmx xs)):=by
 refine Z9 Tryz.func13 rfl Tryz.ntmps13 rfl ?_
 refine sqt 1 rfl (pur 1 rfl (Z0 (sqt 3 rfl (pur 1 rfl (sp rfl (PE.lenSl Z04 rfl) rfl (pur 1 rfl ?_))))))
 refine Z2 rfl ?_ ?_<;>intro hc0
 exact absurd hc0 (by simp;omega)
 try simp only [cS] at hc0
 subst hn
 obtain ⟨x,xs,rfl⟩:∃ y l,xs=y::l:=by cases xs with
   | nil=>exact absurd h1 (by decide)
   | cons y l=>exact ⟨y,l,rfl⟩
 refine Zl (a:=a) (sz:=1) (rows:=irows (x::xs)) (by simp [irows]) (fun ba oa he=>?_)
 subst he
 refine Z3 (sqt 4 rfl (pur 1 rfl (sp rfl (PE.indexAddr Z3R rfl rfl (by omega) (by omega)) rfl (spL rfl rfl (lf0 (i:=0) (x:=.int .i64 x) sc3 rfl rfl) rfl (pur 1 rfl (Z0 (sqt 1 rfl (pur 1 rfl (Z1 ?_)))))))))
 refine Zc (ι:={k:Nat // k≤xs.length}) (fun k=>⟨[(0,.slice (some ⟨ba,oa,none⟩) (x::xs).length c),(3,.int .i64 ((xs.take k.1).foldl max x)),(4,.int .i64 ((k.1+1:Nat):Int))],H,R⟩) (fun k=>xs.length-k.1) ⟨0,Nat.zero_le _⟩ ?_ (fun k=>?_)
 exact Zf idH
 obtain ⟨k,hk⟩:=k
 dsimp only at hk ⊢
 have hll:(x::xs).length=xs.length+1:=rfl
 refine Z0 (sqt 4 rfl (pur 2 rfl (sp rfl (PE.lenSl Z04 rfl) rfl (pur 1 rfl ?_))))
 refine Z2 rfl ?_ ?_<;>intro hc1<;>try simp only [cS] at hc1
 obtain ⟨y,hy⟩:∃ y,xs[k]?=some y:=⟨_,List.getElem?_eq_getElem (by omega)⟩
 refine Z3 (Z0 (Z1 (sqr 7 rfl (pur 3 rfl (sp rfl (PE.indexAddr Z3R rfl rfl (by omega) (by omega)) rfl ?_)))))
 refine spL rfl rfl (lf0 (i:=k+1) (x:=.int .i64 y) sc3 (Z1s (by rw [List.getElem?_cons_succ];exact hy)) rfl) rfl ?_
 refine sp rfl (PE.max rfl rfl) rfl (pur 1 rfl (sqr 3 rfl (pur 1 rfl (sp rfl (PE.add rfl rfl (by omega)) rfl (pur 1 rfl ?_)))))
 rw [show max ((xs.take k).foldl max x) y=(xs.take (k+1)).foldl max x by rw [List.take_add_one,hy];simp]
 exact Zb ⟨k+1,by omega⟩ idH
 obtain rfl:k=xs.length:=by omega
 rw [List.take_length]
 refine Z8 (Za (Za (Zn (sqt 2 rfl (pur 2 rfl (Z5 ?_))))))
 exact rtA rfl rfl rfl ⟨rfl,rfl,rfl⟩ drp
theorem Zb3 (b:Ro.Rb) (a:Option Addr) (c:Nat) (hb:b.ok) (l:List Int) (n:Nat) (hn:l.length=n) (ak:Option Addr) (ck:Nat) (hl:l.length=b.n) (hh:∀ x∈l,0≤x∧x≤9) (x:Ro.Rd) (hx:(0≤x.c∧x.c<b.cols)∧(0≤x.r∧x.r<b.rows)∧0≤x.g∧x.g≤3) (H:Z7) (R:Z4) [hB:MemRows a 4 (Ro.rdrows b.rods) R] [hL:MemRows ak 1 (irows l) R]:FnV Tryz.prog 9 [b.v a c,.slice ak n ck,.agg #[.int .i64 x.c,.int .i64 x.r],.int .i64 x.g] H R (.tuple #[.int .i64 (b.feel (Ro.na l) x),.int .i64 0]):=by
 subst hn;exact Ro.c_Feels b a c hb l ak ck hl hh x hx H R
set_option maxHeartbeats 2000000 in
theorem c_TopWarmed (l0:List Int) (a0:Option Addr) (c0:Nat) (hl0:l0.length≤9223372036854775807) (l1:List Int) (a1:Option Addr) (c1:Nat) (hl1:l1.length≤9223372036854775807) (n2 n3:Int) (hn2:0≤n2∧n2≤255) (hn3:0≤n3∧n3≤255) (H:Z7) (R:Z4) [hG0:MemRows a0 1 (Z41 l0) R] [hG1:MemRows a1 1 (Z41 l1) R] :
    Fn Tryz.prog 3 [.slice a0 l0.length c0,.slice a1 l1.length c1,.int .u8 n2,.int .u8 n3] H R (fun v H' R'=>v = .bool true∧H'=H∧R'=R):=by
 refine Z9 Tryz.func3 rfl Tryz.ntmps3 rfl ?_
 refine sqt 1 rfl (pur 1 rfl (sqt 5 rfl (pur 1 rfl ?_)))
 refine cl rfl Zk8 rfl rfl (Zc7 l0 a0 c0 hl0 _ _) ?_
 rintro _ _ R1 ⟨bk,mk,hmk,rfl,rfl,hR1⟩
 obtain rfl:=hR1.symm
 clear hR1
 refine cl rfl Zkl rfl rfl (Zf7 l0 a0 c0 bk hl0 0 mk (by omega) hmk 3 2 (by omega) (by omega) _ _) ?_
 rintro _ _ R1 ⟨b,ab,cb,tqb,mxb,hmd,rfl,htqb,hmxb,rfl,hR1⟩
 obtain rfl:=hR1.symm
 clear hR1
 have hok:=hmd.ok
 have hck:=hmd.check
 have hr:=hok.len
 have hmn:=hok.many
 have hnb:=hmd.nb
 have hgn:=hok.gangs
 have hng:=hmd.ng
 have hl:b.bins.length≤9223372036854775807:=by omega
 refine Zl (a:=ab) (sz:=4) (rows:=Zt b.bins) (ne0 (by rw [Z1i];omega)) (fun ba oa he=>?_)
 subst he
 refine alc rfl ZeI rfl (fun b9=>?_)
 refine Z03 (l':=btl b (b.sl (some ⟨ba,oa,none⟩) cb)) rfl rfl rfl ZeO rfl rfl rfl rfl (nl rfl) ?_
 refine sqt 3 rfl (pur 1 rfl ?_)
 refine cl rfl Zk8 rfl rfl (Zc7 l1 a1 c1 hl1 _ _) ?_
 rintro _ _ R1 ⟨bq,mq,hmq,rfl,rfl,hR1⟩
 obtain rfl:=hR1.symm
 clear hR1
 refine pur 1 rfl (sqt 1 rfl (pur 1 rfl (sqt 2 rfl ?_)))
 refine mkS (l:=4) (c:=4) rfl Zke ZeI rfl rfl (Nat.le_refl _) (by decide) rfl (fun b39=>?_)
 refine pur 1 rfl (Z0 (sqt 3 rfl (pur 1 rfl (sp rfl (PE.lenSl Zhp rfl) rfl (pur 1 rfl (Z1 ?_))))))
 refine Zc (ι:={x:Nat×List WB // x.1≤4∧x.2.length=x.1∧∀ y∈x.2,y.ws=b.warms}) (fun x=>⟨[(2,.int .u8 n2),(3,.int .u8 n3),(9,.pointer (some ⟨b9,0,none⟩)),(10,.pointer (some ⟨bq,0,none⟩)),(12,.slice (some ⟨b39,0,none⟩) 4 4),(11,.slice none 0 0),(41,.int .i64 4),(42,.int .i64 (x.1.1:Int))],DW b.bins x.1.2++((b39,cel 26 ((Z0y b (x.1.2.map WB.key)).flatten++Z1U (4-x.1.1) [.int .i64 0,.int .i64 0,.int .i64 0,.int .i64 0,.int .i64 0,.int .i64 0,.int .i64 0,.int .i64 0,.slice none 0 0]))::(bq,cel 83 [.slice a1 l1.length c1,.int .i64 (0),.int .u32 (mq)])::(b9,cel 26 (btl b (b.sl (some ⟨ba,oa,none⟩) cb)))::(bk,cel 83 [.slice a0 l0.length c0,.int .i64 (tqb),.int .u32 (mxb)])::H),RowsA (some ⟨ba,oa,none⟩) 4 (Zt b.bins)::R⟩) (fun x=>4-x.1.1) ⟨(0,[]),Nat.zero_le _,rfl,fun y hy=>by cases hy⟩ ?_ (fun x=>?_)
 exact Zf idH
 ·
  obtain ⟨⟨k,l⟩,hk,hll,hlw⟩:=x
  dsimp only at hk hll hlw ⊢
  have hkl:(l.map WB.key).length=k:=by rw [List.length_map,hll]
  refine sqt 1 rfl (pur 1 rfl (Z0 ?_))
  refine Z2 rfl ?_ ?_<;>intro hc0<;>try simp only [cS] at hc0
  obtain ⟨k9,hk9⟩:∃ k9,4-k=k9+1:=⟨3-k,by omega⟩
  rw [hk9]
  refine Z3 (Z0 (Z1 (sqt 2 rfl (pur 2 rfl (sqt 5 rfl (pur 2 rfl (spL rfl rfl (lhA (btl b (b.sl (some ⟨ba,oa,none⟩) cb)) Z3U rfl rfl rfl) rfl (sp rfl (PE.indexAddr Zic rfl rfl (by omega) (by omega)) rfl ?_))))))))
  refine Z03 (l':=(Z0y b (l.map WB.key)).flatten++(btl b (b.sl (some ⟨ba,oa,none⟩) cb)++Z1U k9 [.int .i64 0,.int .i64 0,.int .i64 0,.int .i64 0,.int .i64 0,.int .i64 0,.int .i64 0,.int .i64 0,.slice none 0 0])) rfl rfl rfl ZeO rfl rfl rfl (Zee rfl (by rw [Z7o,hkl];show 0+((k:Nat):Int).toNat*9=_;omega)) (by rw [List.length_append,Z7o,hkl,Zaf];show 0+((k:Nat):Int).toNat*9+9≤_;omega) ?_
  refine sqr 8 rfl (pur 2 rfl (sp rfl (PE.fA ZX rfl) rfl (spL rfl rfl (lh Z31 rfl rfl) rfl ?_)))
  refine cl rfl Zkm rfl rfl (Z8K b.bins (some ⟨ba,oa,none⟩) cb (by omega) _ _) ?_
  rintro _ _ R1 ⟨o,rfl,ho,rfl,hR1⟩
  obtain rfl:=hR1.symm
  clear hR1
  obtain ⟨bo,cap,junk,hfs,hG⟩:=o.own ho
  rw [hfs,hG,Z1i]
  refine Sy.heap (H':=(bo,cel 36 ((Zt (ZK b.bins b.warms)).flatten++junk))::(DW b.bins l++((b39,cel 26 ((Z0y b (l.map WB.key)).flatten++(btl b (b.sl (some ⟨ba,oa,none⟩) cb)++Z1U k9 [.int .i64 0,.int .i64 0,.int .i64 0,.int .i64 0,.int .i64 0,.int .i64 0,.int .i64 0,.int .i64 0,.slice none 0 0])))::(bq,cel 83 [.slice a1 l1.length c1,.int .i64 (0),.int .u32 (mq)])::(b9,cel 26 (btl b (b.sl (some ⟨ba,oa,none⟩) cb)))::(bk,cel 83 [.slice a0 l0.length c0,.int .i64 (tqb),.int .u32 (mxb)])::H))) (fun w h=>by rw [show ZK b.bins b.warms=b.bins from ZeD _];exact h) ?_
  refine sp rfl (PE.indexAddr Zic rfl rfl (by omega) (by omega)) rfl (sp rfl (PE.fA ZX rfl) rfl ?_)
  refine Z03 (l':=(Z0y b ((l.map WB.key)++[(bo,cap)])).flatten++Z1U k9 [.int .i64 0,.int .i64 0,.int .i64 0,.int .i64 0,.int .i64 0,.int .i64 0,.int .i64 0,.int .i64 0,.slice none 0 0]) rfl rfl rfl Zjn rfl rfl rfl ((ZhN (by rw [Z7o,hkl];show 0+((k:Nat):Int).toNat*9+8=_;omega)).trans (ZdS b _ (bo,cap) _)) (by rw [List.length_append,List.length_append,Z7o,hkl];show 0+((k:Nat):Int).toNat*9+8+1≤k*9+(9+_);omega) ?_
  refine sqr 2 rfl (sp rfl (PE.add rfl rfl (by omega)) rfl (pur 1 rfl ?_))
  exact Zb ⟨(k+1,l++[⟨bo,b.warms,cap,junk⟩]),by dsimp only;omega,by dsimp only;rw [List.length_append,List.length_singleton];omega,fun y hy=>(List.mem_append.1 hy).elim (hlw y) (fun h9=>by rw [List.mem_singleton.1 h9])⟩ (fun w h9=>by dsimp only;rw [List.map_append,show 4-(k+1)=k9 by omega];exact h9.perm (ZcY b.bins l ⟨bo,b.warms,cap,junk⟩ _))
  ·
   obtain rfl:k=4:=by omega
   have hord0:=Za6 hok hll hlw
   obtain ⟨K,hK0⟩:∃ K,l.map WB.key=K:=⟨_,rfl⟩
   have hKl:K.length=4:=by rw [← hK0,hkl]
   rw [hK0,show (Z0y b K).flatten++Z1U (4-4) [.int .i64 0,.int .i64 0,.int .i64 0,.int .i64 0,.int .i64 0,.int .i64 0,.int .i64 0,.int .i64 0,.slice none 0 0]=(Z0y b K).flatten from List.append_nil _]
   refine Z8 (Za (Za (Zn (Z0 (sqt 4 rfl (sp rfl (PE.fA ZX rfl) rfl (spL rfl rfl (lh Z31 rfl rfl) rfl (sp rfl (PE.lenSl Z1E rfl) rfl (pur 1 rfl (Z1 ?_))))))))))
   refine Zc (ι:={x:Nat×List WB×Int×Int // x.1≤b.bins.length∧Ord4 b x.2.1∧x.2.1.map WB.key=K∧(0≤x.2.2.1∧x.2.2.1≤x.1*30)∧(0≤x.2.2.2∧x.2.2.2≤4294967295)}) (fun x=>⟨[(2,.int .u8 n2),(3,.int .u8 n3),(9,.pointer (some ⟨b9,0,none⟩)),(10,.pointer (some ⟨bq,0,none⟩)),(12,.slice (some ⟨b39,0,none⟩) 4 4),(11,.slice none 0 0),(58,.slice (some ⟨ba,oa,none⟩) b.bins.length cb),(59,.int .i64 (b.bins.length:Nat)),(60,.int .i64 (x.1.1:Int))],(bq,cel 83 [.slice a1 l1.length c1,.int .i64 (x.1.2.2.1),.int .u32 (x.1.2.2.2)])::(DW b.bins x.1.2.1++((b39,cel 26 ((Z0y b K).flatten))::(b9,cel 26 (btl b (b.sl (some ⟨ba,oa,none⟩) cb)))::(bk,cel 83 [.slice a0 l0.length c0,.int .i64 (tqb),.int .u32 (mxb)])::H)),RowsA (some ⟨ba,oa,none⟩) 4 (Zt b.bins)::R⟩) (fun x=>b.bins.length-x.1.1) ⟨(0,l,0,mq),Nat.zero_le _,hord0,hK0,by dsimp only;omega,by assumption⟩ ?_ (fun x=>?_)
   ·
    exact Zf (fun w h9=>h9.perm (by refine (Zy (DW b.bins l) [_,_] _).trans ?_;exact ((List.Perm.swap _ _ _).trans (List.Perm.cons _ (Zy [_] (DW b.bins l) _)))))
   obtain ⟨⟨i,l2,tq,mx⟩,hi,hord,hK,htq,hmx⟩:=x
   dsimp only at hi hord hK htq hmx ⊢
   refine sqt 1 rfl (pur 1 rfl (Z0 ?_))
   refine Z2 rfl ?_ ?_<;>intro hc1<;>try simp only [cS] at hc1
   have hib:i<b.bins.length:=by omega
   obtain ⟨x,hx⟩:∃ x,b.bins[i]?=some x:=⟨_,List.getElem?_eq_getElem hib⟩
   have hxo:=hok.bins x (List.mem_of_getElem? hx)
   refine Z3 (Z0 (Z1 (sqt 6 rfl (pur 1 rfl (sp rfl (PE.indexAddr Zct rfl rfl (by omega) (by omega)) rfl (spL rfl rfl (lfA ZeM (row:=Z3W x) (Z47 hx) rfl) rfl (alc rfl ZeJ rfl (fun b15=>pur 1 rfl ?_))))))))
   refine sto rfl rfl rfl Zib rfl rfl rfl rfl ?_
   refine sqt 8 rfl (pur 1 rfl ?_)
   refine ZE bq ?_
   refine cl rfl Zkn rfl rfl (Zdc l1 a1 c1 hl1 bq _ _ (by omega) (by assumption) _ _) ?_
   rintro _ _ R1 ⟨C,W,rods,hl,ax,ah,cx,ch,tq2,mx2,hrok,hrt,hlen,hrng,hrl,htq2,hmx2,rfl,rfl,hR1⟩
   obtain rfl:=hR1.symm
   clear hR1
   have hCW1:1*1≤C*W:=Nat.mul_le_mul hrok.cols.1 hrok.rows.1
   have hCW9:C*W≤5*5:=Nat.mul_le_mul hrok.cols.2 hrok.rows.2
   have hC5:=hrok.cols
   have hW5:=hrok.rows
   dsimp only at hC5 hW5
   refine pur 3 rfl (alc rfl Z7H rfl (fun b16=>?_))
   refine Z03 (l':=Ro.rbl ⟨C,W,rods⟩ ax cx) rfl rfl rfl Z9t rfl rfl rfl rfl (nl rfl) ?_
   refine pur 1 rfl (sqt 3 rfl (spL rfl rfl (lhA (Ro.rbl ⟨C,W,rods⟩ ax cx) ZG rfl rfl rfl) rfl (alc rfl Z7H rfl (fun b18=>?_))))
   refine Z03 (l':=Ro.rbl ⟨C,W,rods⟩ ax cx) rfl rfl rfl Z9t rfl rfl rfl rfl (nl rfl) ?_
   refine Z0 (sqt 8 rfl (pur 1 rfl (sp rfl (PE.conv64 us5 ik3 rfl (by omega)) rfl (sp rfl (PE.fA ZX rfl) rfl (spL rfl rfl (lh Z31 rfl rfl) rfl (sp rfl (PE.lenSl Z1E rfl) rfl (sp rfl (PE.rem rfl rfl (by omega)) rfl (pur 2 rfl ?_))))))))
   refine Zev (ι:={y:List Ro.Rd×Option Addr×Nat // Ro.Rb.ok ⟨C,W,y.1⟩∧Ro.RTru ⟨C,W,y.1⟩ (Ro.na hl)∧∀ k,Ro.Rb.top ⟨C,W,y.1⟩ k≤Ro.Rb.top ⟨C,W,rods⟩ k}) (fun y=>⟨[(2,.int .u8 n2),(3,.int .u8 n3),(9,.pointer (some ⟨b9,0,none⟩)),(10,.pointer (some ⟨bq,0,none⟩)),(12,.slice (some ⟨b39,0,none⟩) 4 4),(11,.slice none 0 0),(14,.int .i64 (i:Int)),(15,.pointer (some ⟨b15,0,none⟩)),(16,.pointer (some ⟨b16,0,none⟩)),(17,.slice ah (C*W) ch),(18,.pointer (some ⟨b18,0,none⟩)),(58,.slice (some ⟨ba,oa,none⟩) b.bins.length cb),(59,.int .i64 (b.bins.length:Nat)),(60,.int .i64 (i:Int))],(b18,cel 39 (Ro.rbl ⟨C,W,y.1.1⟩ y.1.2.1 y.1.2.2))::(b16,cel 39 (Ro.rbl ⟨C,W,rods⟩ ax cx))::(bq,cel 83 [.slice a1 l1.length c1,.int .i64 (tq2),.int .u32 (mx2)])::(b15,cel 36 (Z3W x))::(DW b.bins l2++((b39,cel 26 ((Z0y b K).flatten))::(b9,cel 26 (btl b (b.sl (some ⟨ba,oa,none⟩) cb)))::(bk,cel 83 [.slice a0 l0.length c0,.int .i64 (tqb),.int .u32 (mxb)])::H)),RowsA y.1.2.1 4 (Ro.rdrows y.1.1)::RowsA ax 4 (Ro.rdrows rods)::RowsA ah 1 (irows hl)::RowsA (some ⟨ba,oa,none⟩) 4 (Zt b.bins)::R⟩) ?_ ?_
   refine Z2 rfl ?_ ?_<;>intro hc2<;>try simp only [cS] at hc2
   refine Z0 ?_
   refine Z2j (ι:={y:Int×Int×Nat // (0≤y.1∧y.1<C)∧(0≤y.2.1∧y.2.1<W)}) (fun y=>⟨[(2,.int .u8 n2),(3,.int .u8 n3),(9,.pointer (some ⟨b9,0,none⟩)),(10,.pointer (some ⟨bq,0,none⟩)),(12,.slice (some ⟨b39,0,none⟩) 4 4),(11,.slice none 0 0),(14,.int .i64 (i:Int)),(15,.pointer (some ⟨b15,0,none⟩)),(16,.pointer (some ⟨b16,0,none⟩)),(17,.slice ah (C*W) ch),(18,.pointer (some ⟨b18,0,none⟩)),(19,.pointer (some ⟨y.1.2.2,0,none⟩)),(58,.slice (some ⟨ba,oa,none⟩) b.bins.length cb),(59,.int .i64 (b.bins.length:Nat)),(60,.int .i64 (i:Int))],(y.1.2.2,cel 43 [.int .i64 y.1.1,.int .i64 y.1.2.1])::(b18,cel 39 (Ro.rbl ⟨C,W,rods⟩ ax cx))::(b16,cel 39 (Ro.rbl ⟨C,W,rods⟩ ax cx))::(bq,cel 83 [.slice a1 l1.length c1,.int .i64 (tq2),.int .u32 (mx2)])::(b15,cel 36 (Z3W x))::(DW b.bins l2++((b39,cel 26 ((Z0y b K).flatten))::(b9,cel 26 (btl b (b.sl (some ⟨ba,oa,none⟩) cb)))::(bk,cel 83 [.slice a0 l0.length c0,.int .i64 (tqb),.int .u32 (mxb)])::H)),RowsA ax 4 (Ro.rdrows rods)::RowsA ah 1 (irows hl)::RowsA (some ⟨ba,oa,none⟩) 4 (Zt b.bins)::R⟩) ?_ ?_
   refine Zd [0,1,0,4,15,0,32,96,0,256,992,2047,0,8191] (tks 0 3 (.ld 3 (tks 4 5 (.ld 9 (.tk 10 (.tk 11 (.big 12 (.big 13 .done)))))))) Zq (by kernel_rfl) ?_
   refine Zm 1 rfl (tk rfl (PE.conv64 us5 ik3 rfl (by omega)) rfl (tk rfl (PE.fA Z1q rfl) rfl (ld rfl rfl (lh (v:=.int .i64 (C:Int)) sc3 rfl rfl) rfl (tk rfl (PE.rem rfl rfl (by omega)) rfl (Zm 1 rfl (tk rfl (PE.conv64 us5 ik3 rfl (by omega)) rfl (tk rfl (PE.quo rfl rfl (by omega)) rfl (tk rfl (PE.fA Z1r rfl) rfl (ld rfl rfl (lh (v:=.int .i64 (W:Int)) sc3 rfl rfl) rfl (tk rfl (PE.rem rfl rfl (by omega)) rfl (tk rfl (PE.build (out:=[.int .i64 (n3%(C:Int)),.int .i64 (n3 / 8%(W:Int))]) Zab Z3S rfl rfl) rfl (alc rfl Z3S rfl (fun b19=>?_)))))))))))))
   refine bg (fun w hs=>⟨(lh (v:=.int .i64 (W:Int)) sc3 rfl rfl) w hs,(lh (v:=.int .i64 (C:Int)) sc3 rfl rfl) w hs,trivial⟩) ?_
   refine sto rfl rfl rfl Z9u rfl rfl rfl rfl ?_
   refine bgT ?_
   exact Zh ⟨(n3%(C:Int),n3 / 8%(W:Int),b19),⟨Int.emod_nonneg _ (by omega),Int.emod_lt_of_pos _ (by omega)⟩,Int.emod_nonneg _ (by omega),Int.emod_lt_of_pos _ (by omega)⟩ idH
   rintro ⟨⟨u,v,b19⟩,hu,hv⟩
   dsimp only at hu hv ⊢
   refine sqt 9 rfl (spL rfl rfl (lhA (Ro.rbl ⟨C,W,rods⟩ ax cx) ZG rfl rfl rfl) rfl (pur 1 rfl (spL rfl rfl (lhA [.int .i64 u,.int .i64 v] Z1Z rfl rfl rfl) rfl ?_)))
   refine cl rfl Zko rfl rfl (Zb3 ⟨C,W,rods⟩ ax cx hrok hl (C*W) hlen ah ch hlen hrng ⟨u,v,2,0⟩ (by dsimp only;omega) _ _) ?_
   rintro _ _ R1 ⟨rfl,rfl,hR1⟩
   obtain rfl:=hR1.symm
   clear hR1
   obtain ⟨sv,hsv⟩:∃ sv,sv=Ro.Rb.feel ⟨C,W,rods⟩ (Ro.na hl) ⟨u,v,2,0⟩:=⟨_,rfl⟩
   rw [← hsv]
   have hsb:=Z9G (ZcB hlen hrng) (C:=C) (W:=W) (rods:=rods) ⟨u,v,2,0⟩
   rw [← hsv] at hsb
   refine pur 5 rfl (Z0 (sqt 2 rfl (pur 2 rfl ?_)))
   refine Z2 rfl ?_ ?_<;>intro hc3
   exact absurd hc3 (by simp)
   refine Z3 (sqt 10 rfl (spL rfl rfl (lhA (Ro.rbl ⟨C,W,rods⟩ ax cx) ZG rfl rfl rfl) rfl (spL rfl rfl (lhA [.int .i64 u,.int .i64 v] Z1Z rfl rfl rfl) rfl (pur 1 rfl (sp rfl (PE.build (out:=[.int .i64 u,.int .i64 v,.int .i64 2,.int .i64 sv]) ZaL Z3Q rfl rfl) rfl ?_)))))
   refine cl rfl ZiB rfl rfl (Ro.c_Put ⟨C,W,rods⟩ ax cx hrok ⟨u,v,2,sv⟩ (by dsimp only;omega) (by dsimp only;omega) _ _) ?_
   rintro _ _ R1 ⟨ax9,cx9,rfl,rfl,hR1⟩
   obtain rfl:=hR1.symm
   clear hR1
   rw [show (Ro.Rb.add ⟨C,W,rods⟩ ⟨u,v,2,sv⟩).rods=rods++[⟨u,v,2,sv⟩] from rfl]
   refine pur 3 rfl ?_
   refine Z03 (l':=Ro.rbl ⟨C,W,rods++[⟨u,v,2,sv⟩]⟩ ax9 cx9) rfl rfl rfl Z9t rfl rfl rfl rfl (nl rfl) ?_
   refine pur 1 rfl (sqt 2 rfl (pur 2 rfl ?_))
   refine Z2 rfl ?_ ?_<;>intro hc4
   exact absurd hc4 (by simp)
   refine Z3 ?_
   exact Z7F ⟨(rods++[⟨u,v,2,sv⟩],ax9,cx9),Ro.Rb.add_ok hrok (by dsimp only;omega) (by dsimp only;omega),hrt.more (by rw [hsv];rfl),fun k=>Ro.top_more _ _ _⟩ (fun w h9=>(h9.del b19).facts (fun g hg=>by simp only [List.mem_cons] at hg ⊢;rcases hg with h8 | h8 | h8 | h8 | h8<;>simp [h8]))
   refine Z3 ?_
   exact Z7F ⟨(rods,ax,cx),hrok,hrt,fun k=>Int.le_refl _⟩ (fun w h9=>h9.facts (fun g hg=>by simp only [List.mem_cons] at hg ⊢;rcases hg with h8 | h8 | h8 | h8 | h8<;>simp [h8]))
   rintro ⟨⟨rods2,ax2,cx2⟩,hrok2,hrt2,htop2⟩
   dsimp only at hrok2 hrt2 htop2 ⊢
   refine sqt 7 rfl (spL rfl rfl (lhA (Ro.rbl ⟨C,W,rods⟩ ax cx) ZG rfl rfl rfl) rfl ?_)
   refine cl rfl Zfq rfl rfl (Ro.c_Most ⟨C,W,rods⟩ ax cx hrok (fun x hx=>hrt.fits hx) _ _) ?_
   rintro _ _ R1 ⟨am,cm,rfl,rfl,hR1⟩
   obtain rfl:=hR1.symm
   clear hR1
   have h4:=ZdM hrok hrok2 hrt2 hlen htop2
   obtain ⟨m0,hm0⟩:∃ m,m=(Ro.Rb.topA ⟨C,W,rods⟩).take (C*W):=⟨_,rfl⟩
   obtain ⟨m1,hm1⟩:∃ m,m=(Ro.Rb.topA ⟨C,W,rods2⟩).take (C*W):=⟨_,rfl⟩
   obtain ⟨m3,hm3⟩:∃ m,m=(Ro.Rb.lstK ⟨C,W,rods2⟩ (C*W)).take (C*W):=⟨_,rfl⟩
   rw [← hm0,← hm1,← hm3] at h4
   have e0:m0.length=C*W:=h4.each m0 (by simp)
   have e1:m1.length=C*W:=h4.each m1 (by simp)
   have e3:m3.length=C*W:=h4.each m3 (by simp)
   rw [show (Ro.Rb.topA ⟨C,W,rods⟩).take (Ro.Rb.n ⟨C,W,rods⟩)=m0 from hm0.symm,e0]
   refine pur 5 rfl (sqt 7 rfl (spL rfl rfl (lhA (Ro.rbl ⟨C,W,rods2⟩ ax2 cx2) ZG rfl rfl rfl) rfl ?_))
   refine cl rfl Zfq rfl rfl (Ro.c_Most ⟨C,W,rods2⟩ ax2 cx2 hrok2 (fun x hx=>hrt2.fits hx) _ _) ?_
   rintro _ _ R1 ⟨an,cn,rfl,rfl,hR1⟩
   obtain rfl:=hR1.symm
   clear hR1
   rw [show (Ro.Rb.topA ⟨C,W,rods2⟩).take (Ro.Rb.n ⟨C,W,rods2⟩)=m1 from hm1.symm,e1]
   refine pur 5 rfl (sqt 7 rfl (spL rfl rfl (lhA (Ro.rbl ⟨C,W,rods2⟩ ax2 cx2) ZG rfl rfl rfl) rfl ?_))
   refine cl rfl ZiC rfl rfl (Ro.c_Least ⟨C,W,rods2⟩ ax2 cx2 hrok2 (fun x hx=>hrt2.fits hx) _ _) ?_
   rintro _ _ R1 ⟨az,cz,rfl,rfl,hR1⟩
   obtain rfl:=hR1.symm
   clear hR1
   rw [show (Ro.Rb.lstK ⟨C,W,rods2⟩ (Ro.Rb.n ⟨C,W,rods2⟩)).take (Ro.Rb.n ⟨C,W,rods2⟩)=m3 from hm3.symm,e3]
   refine pur 5 rfl (Z0 (sqt 31 rfl (pur 3 rfl ?_)))
   refine Zv 127 rfl ?_ ?_<;>intro g127
   exact absurd g127 (by simp)
   refine pur 4 rfl ?_
   refine Zv 131 rfl ?_ ?_<;>intro g131
   exact absurd g131 (by simp)
   refine pur 4 rfl ?_
   refine Zv 135 rfl ?_ ?_<;>intro g135
   exact absurd g135 (by simp)
   refine pur 1 rfl ?_
   refine spG rfl rfl rfl rfl (PE.lenSl Z04 rfl) rfl ?_
   refine pur 1 rfl ?_
   refine spG rfl rfl rfl rfl (PE.lenSl Z04 rfl) rfl ?_
   refine pur 3 rfl ?_
   refine Zv 142 rfl ?_ ?_<;>intro g142
   exact absurd g142 (by simp)
   refine pur 1 rfl ?_
   refine spG rfl rfl rfl rfl (PE.lenSl Z04 rfl) rfl ?_
   refine pur 1 rfl ?_
   refine spG rfl rfl rfl rfl (PE.lenSl Z04 rfl) rfl ?_
   refine pur 3 rfl ?_
   refine Zv 149 rfl ?_ ?_<;>intro g149
   exact absurd g149 (by simp)
   refine pur 1 rfl ?_
   refine spG rfl rfl rfl rfl (PE.lenSl Z04 rfl) rfl ?_
   refine pur 1 rfl ?_
   refine spG rfl rfl rfl rfl (PE.lenSl Z04 rfl) rfl ?_
   refine pur 2 rfl ?_
   refine Z2 rfl ?_ ?_<;>intro hc5
   exact absurd hc5 (by simp)
   refine Z3 (sqt 7 rfl (pur 4 rfl ?_))
   refine bsl (out:=[_,_,_,_]) rfl ZkA ZkB rfl rfl rfl rfl rfl rfl (fun b160=>?_)
   refine Sy.heap (fun w h=>St.rows (b:=b160) (sz:=1) (rows:=[[.slice am (C*W) cm],[.slice an (C*W) cn],[.slice ah (C*W) ch],[.slice az (C*W) cz]]) (rest:=[]) h (by simp)) ?_
   have hvb:∀ q,q<4→0≤(fun q=>wrm x (lmx ([m0,m1,hl,m3].getD q []))) q∧(fun q=>wrm x (lmx ([m0,m1,hl,m3].getD q []))) q≤x.mark:=fun q _=>Zi1 (by omega) _
   refine sp rfl (PE.lenSl Zjx rfl) rfl (pur 1 rfl (Z1 ?_))
   refine Zc (ι:={y:Nat×List WB // y.1≤4∧Wrm b i y.1 (fun q=>wrm x (lmx ([m0,m1,hl,m3].getD q []))) l2 y.2∧y.2.map WB.key=K}) (fun y=>⟨[(2,.int .u8 n2),(3,.int .u8 n3),(9,.pointer (some ⟨b9,0,none⟩)),(10,.pointer (some ⟨bq,0,none⟩)),(12,.slice (some ⟨b39,0,none⟩) 4 4),(11,.slice none 0 0),(14,.int .i64 (i:Int)),(15,.pointer (some ⟨b15,0,none⟩)),(58,.slice (some ⟨ba,oa,none⟩) b.bins.length cb),(59,.int .i64 (b.bins.length:Nat)),(60,.int .i64 (i:Int)),(160,.slice (some ⟨b160,0,none⟩) 4 4),(161,.int .i64 4),(162,.int .i64 (y.1.1:Int))],DW b.bins y.1.2++((bq,cel 83 [.slice a1 l1.length c1,.int .i64 (tq2),.int .u32 (mx2)])::(b15,cel 36 (Z3W x))::(b39,cel 26 ((Z0y b K).flatten))::(b9,cel 26 (btl b (b.sl (some ⟨ba,oa,none⟩) cb)))::(bk,cel 83 [.slice a0 l0.length c0,.int .i64 (tqb),.int .u32 (mxb)])::H),RowsA (some ⟨b160,0,none⟩) 1 [[.slice am (C*W) cm],[.slice an (C*W) cn],[.slice ah (C*W) ch],[.slice az (C*W) cz]]::RowsA az 1 (irows m3)::RowsA an 1 (irows m1)::RowsA am 1 (irows m0)::RowsA ah 1 (irows hl)::RowsA (some ⟨ba,oa,none⟩) 4 (Zt b.bins)::R⟩) (fun y=>4-y.1.1) ⟨(0,l2),Nat.zero_le _,Wrm.refl b i _ l2,hK⟩ ?_ (fun y=>?_)
   exact Zf (fun w h9=>(((h9.del b18).del b16).perm (Zy [_,_] (DW b.bins l2) _)).facts (fun g hg=>by simp only [List.mem_cons] at hg ⊢;rcases hg with h8 | h8 | h8 | h8 | h8 | h8 | h8<;>simp [h8]))
   obtain ⟨⟨j,l3⟩,hj,hwr,hK3⟩:=y
   dsimp only at hj hwr hK3 ⊢
   refine sqt 1 rfl (pur 1 rfl (Z0 ?_))
   refine Z2 rfl ?_ ?_<;>intro hc6<;>try simp only [cS] at hc6
   have hj4:j<4:=by omega
   have hl3:l3.length=4:=by rw [hwr.len];exact hord.len
   obtain ⟨y,hy⟩:∃ y,l3[j]?=some y:=⟨_,List.getElem?_eq_getElem (by omega)⟩
   have hyk:=Z6D hK3 hy
   have hyl:y.ws.length=b.bins.length:=by
     obtain ⟨z,hz⟩:∃ z,l2[j]?=some z:=⟨_,List.getElem?_eq_getElem (by rw [hord.len];exact hj4)⟩
     have h7:=hwr.at_ j z hz
     rw [if_neg (by omega),hy] at h7
     cases h7
     exact (hord.cool _ (List.mem_of_getElem? hz)).len
   obtain ⟨sj,aj,cj,mj,hsj,hmj,ej,hMj⟩:∃ (sj:List Value) (aj:Option Addr) (cj:Nat) (mj:List Int),([[.slice am (C*W) cm],[.slice an (C*W) cn],[.slice ah (C*W) ch],[.slice az (C*W) cz]]:List (List Value))[j]?=some sj∧sj=[.slice aj (C*W) cj]∧(mj.length=C*W∧[m0,m1,hl,m3].getD j []=mj)∧MemRows aj 1 (irows mj) (RowsA (some ⟨b160,0,none⟩) 1 [[.slice am (C*W) cm],[.slice an (C*W) cn],[.slice ah (C*W) ch],[.slice az (C*W) cz]]::RowsA az 1 (irows m3)::RowsA an 1 (irows m1)::RowsA am 1 (irows m0)::RowsA ah 1 (irows hl)::RowsA (some ⟨ba,oa,none⟩) 4 (Zt b.bins)::R):=by
     obtain rfl | rfl | rfl | rfl:j=0∨j=1∨j=2∨j=3:=by omega
     · exact ⟨_,am,cm,m0,rfl,rfl,⟨e0,rfl⟩,inferInstance⟩
     · exact ⟨_,an,cn,m1,rfl,rfl,⟨e1,rfl⟩,inferInstance⟩
     · exact ⟨_,ah,ch,hl,rfl,rfl,⟨hlen,rfl⟩,inferInstance⟩
     · exact ⟨_,az,cz,m3,rfl,rfl,⟨e3,rfl⟩,inferInstance⟩
   subst hmj
   refine Z3 (Z0 (Z1 (sqt 5 rfl (pur 1 rfl (sp rfl (PE.indexAddr Zkr rfl rfl (by omega) (by omega)) rfl (spL rfl rfl (lf0 (x:=.slice aj (C*W) cj) Z8k hsj rfl) rfl (pur 2 rfl ?_)))))))
   refine Zd [0,0,3,7,15,0,0,64,0,256,768,1792,3840,8128,16383,32767,65535] (tks 0 4 (.ld 4 (.tk 5 (.tk 6 (.ld 7 (.tk 8 (.big 9 (tks 10 6 (.big 16 .done))))))))) Zq (by kernel_rfl) ?_
   refine Zm 2 rfl (tk rfl (PE.indexAddr Zic rfl rfl (by omega) (by omega)) rfl (tk rfl (PE.fA ZX rfl) rfl (ld rfl rfl (lh (v:=.slice (some ⟨y.b,0,none⟩) b.bins.length y.cap) Z31 rfl (Zhs hyk (by show 0+((j:Nat):Int).toNat*9+8=_;omega))) rfl (Zm 1 rfl (tk rfl (PE.fA Z3v rfl) rfl (ld rfl rfl (lh (v:=.int .i64 x.mark) sc3 rfl rfl) rfl (Zm 1 rfl ?_)))))))
   refine cl rfl ZiD rfl rfl (Zf8 mj (C*W) ej.1 aj cj (by omega) (by omega) _ _) ?_
   rintro _ _ R1 ⟨rfl,rfl,hR1⟩
   obtain rfl:=hR1.symm
   clear hR1
   refine bg (fun w hs=>⟨(lh (v:=.int .i64 x.mark) sc3 rfl rfl) w hs,(lh (v:=.slice (some ⟨y.b,0,none⟩) b.bins.length y.cap) Z31 rfl (Zhs hyk (by show 0+((j:Nat):Int).toNat*9+8=_;omega))) w hs,trivial⟩) ?_
   refine tk rfl (PE.max rfl rfl) rfl (tk rfl (PE.min rfl rfl) rfl (tk rfl (PE.mul rfl rfl (by omega)) rfl (tk rfl (PE.min rfl rfl) rfl (tk rfl (PE.indexAddr Zct rfl rfl (by omega) (by omega)) rfl (tk rfl (PE.fA Z5E rfl) rfl ?_)))))
   refine Sy.heap (H':=(y.b,cel 36 ((Zt (ZK b.bins y.ws)).flatten++y.junk))::(DW b.bins (l3.eraseIdx j)++((bq,cel 83 [.slice a1 l1.length c1,.int .i64 (tq2),.int .u32 (mx2)])::(b15,cel 36 (Z3W x))::(b39,cel 26 ((Z0y b K).flatten))::(b9,cel 26 (btl b (b.sl (some ⟨ba,oa,none⟩) cb)))::(bk,cel 83 [.slice a0 l0.length c0,.int .i64 (tqb),.int .u32 (mxb)])::H))) (fun w h9=>h9.perm (List.Perm.append_right _ (Z8m hy))) ?_
   refine Z03 (l':=(Zt (ZK b.bins (y.ws.set i (wrm x (lmx mj))))).flatten++y.junk) rfl rfl rfl cn3 rfl rfl rfl ((ZaZ (Z2k hx (na_get (by rw [hyl];exact hib))) _ (by show 0+((i:Nat):Int).toNat*4=_;omega)).trans (by rw [ZaF hyl hx];rfl)) (by rw [List.length_append,Z6c,Z0F hyl];show 0+((i:Nat):Int).toNat*4+1≤_;omega) ?_
   refine Sy.heap (H':=DW b.bins (l3.set j { y with ws:=y.ws.set i (wrm x (lmx mj)) })++((bq,cel 83 [.slice a1 l1.length c1,.int .i64 (tq2),.int .u32 (mx2)])::(b15,cel 36 (Z3W x))::(b39,cel 26 ((Z0y b K).flatten))::(b9,cel 26 (btl b (b.sl (some ⟨ba,oa,none⟩) cb)))::(bk,cel 83 [.slice a0 l0.length c0,.int .i64 (tqb),.int .u32 (mxb)])::H)) (fun w h9=>h9.perm (List.Perm.append_right _ (Z8n (x:={ y with ws:=y.ws.set i (wrm x (lmx mj)) }) (by omega)))) ?_
   refine bgT (sqr 2 rfl (sp rfl (PE.add rfl rfl (by omega)) rfl (pur 1 rfl ?_)))
   have h7:Wrm b i (j+1) (fun q=>wrm x (lmx ([m0,m1,hl,m3].getD q []))) l2 (l3.set j { y with ws:=y.ws.set i (wrm x (lmx ([m0,m1,hl,m3].getD j []))) }):=hwr.step hy
   rw [ej.2] at h7
   exact Zb ⟨(j+1,l3.set j { y with ws:=y.ws.set i (wrm x (lmx mj)) }),by dsimp only;omega,h7,ZdQ hK3 hy _⟩ idH
   obtain rfl:j=4:=by omega
   have hord2:=hord.next hx hwr hvb (fun q hq=>h4.max x q hq)
   refine Z8 (Za (Za (Zn (sqr 2 rfl (sp rfl (PE.add rfl rfl (by omega)) rfl (pur 1 rfl ?_))))))
   exact Zb ⟨(i+1,l3,tq2,mx2),by dsimp only;omega,hord2,hK3,by dsimp only;omega,by assumption⟩ (fun w h9=>by dsimp only;exact ((h9.del b15).perm (List.perm_middle (l₁:=DW b.bins l3) (a:=_))).sub)
   refine Sy.heap (H':=(bq,cel 83 [.slice a1 l1.length c1,.int .i64 (tq),.int .u32 (mx)])::(b39,cel 26 ((Z0y b K).flatten))::(b9,cel 26 (btl b (b.sl (some ⟨ba,oa,none⟩) cb)))::(bk,cel 83 [.slice a0 l0.length c0,.int .i64 (tqb),.int .u32 (mxb)])::H) (fun w h9=>St.wbs (h9.perm (List.perm_middle (l₁:=DW b.bins l2) (a:=_)).symm)) ?_
   refine Sy.heap (fun w h9=>St.rows (b:=b39) (sz:=9) (rows:=Z0y b K) (rest:=[]) (by rw [List.append_nil];exact h9.pull b39) (Z3B b K)) ?_
   refine Z8 (Za (Za (Zn (Z0 (sqt 3 rfl (pur 1 rfl (sp rfl (PE.lenSl Zhp rfl) rfl (pur 1 rfl (Z1 ?_)))))))))
   refine Zc (ι:=(x:{x:Nat×List Int // x.1≤4∧x.2.length=x.1∧Z73 b l2 x.2})×OSl 3 1 (irows x.1.2)) (fun x=>⟨[(11,x.2.fs),(185,.slice (some ⟨b39,0,none⟩) 4 4),(186,.int .i64 4),(187,.int .i64 (x.1.1.1:Int))],x.2.G++((bq,cel 83 [.slice a1 l1.length c1,.int .i64 (tq),.int .u32 (mx)])::(b9,cel 26 (btl b (b.sl (some ⟨ba,oa,none⟩) cb)))::(bk,cel 83 [.slice a0 l0.length c0,.int .i64 (tqb),.int .u32 (mxb)])::H),RowsA (some ⟨b39,0,none⟩) 9 (Z0y b K)::WBs b.bins l2::RowsA (some ⟨ba,oa,none⟩) 4 (Zt b.bins)::R⟩) (fun x=>4-x.1.1.1) ⟨⟨(0,[]),Nat.zero_le _,rfl,fun q v hq=>by simp at hq⟩,OSl.nil _ _⟩ ?_ (fun x=>?_)
   exact Zf idH
   obtain ⟨⟨⟨j,ds⟩,hj,hdl,hds⟩,o⟩:=x
   dsimp only at hj hdl hds o ⊢
   refine sqt 1 rfl (pur 1 rfl (Z0 ?_))
   refine Z2 rfl ?_ ?_<;>intro hc7<;>try simp only [cS] at hc7
   obtain ⟨y,hy⟩:∃ y,l2[j]?=some y:=⟨_,List.getElem?_eq_getElem (by rw [hord.len];omega)⟩
   have hym:=List.mem_of_getElem? hy
   have hyk:=Z6D hK hy
   have hyc:=hord.cool y hym
   have hyo:=Z34 hok hyc
   have hyck:(b.withB (ZK b.bins y.ws)).check=0:=Z4z hyo (show b.gangs≤3 from Z3j hck)
   have hyl:(b.withB (ZK b.bins y.ws)).bins.length≤9223372036854775807:=by have:=hyo.many;omega
   refine Z3 (Z0 (Z1 (sqt 4 rfl (sp rfl (PE.indexAddr Zic rfl rfl (by omega) (by omega)) rfl (spL rfl rfl (lfA Z3U (row:=ZeP b y.key) (ZcE hyk) rfl) rfl ?_)))))
   rw [ZdT hyc.len]
   refine alc rfl ZeI rfl (fun b31=>?_)
   refine Z03 (l':=btl (b.withB (ZK b.bins y.ws)) ((b.withB (ZK b.bins y.ws)).sl (some ⟨y.b,0,none⟩) y.cap)) rfl rfl rfl ZeO rfl rfl rfl rfl (nl rfl) ?_
   refine Sy.heap (fun w h9=>St.wbAt (b:=b) h9 hym) ?_
   refine sqt 7 rfl (spL rfl rfl (lhA (btl (b.withB (ZK b.bins y.ws)) ((b.withB (ZK b.bins y.ws)).sl (some ⟨y.b,0,none⟩) y.cap)) Z3U rfl rfl rfl) rfl ?_)
   refine cl rfl ZiE rfl rfl (Z7L (b.withB (ZK b.bins y.ws)) (some ⟨y.b,0,none⟩) y.cap hyl hr hyck _ _) ?_
   rintro _ _ R1 ⟨⟨m,hm,rfl⟩,rfl,hR1⟩
   obtain rfl:=hR1.symm
   clear hR1
   refine pur 5 rfl (Z0 (sqt 2 rfl (pur 2 rfl ?_)))
   refine Z2 rfl ?_ ?_<;>intro hc8
   exact absurd hc8 (by simp)
   refine Z3 (sqr 5 rfl (pur 2 rfl ?_))
   refine bsl (out:=[_]) rfl Z6a zl3 rfl rfl rfl rfl rfl rfl (fun b200=>?_)
   refine apO (o) rfl Zc5 rfl rfl (Z2z (row:=[.int .i64 m]) rfl) rfl rfl ((by rw [Z3A];simp only [List.length_singleton];omega)) rfl (fun o201=>?_)
   refine pur 1 rfl (sqr 2 rfl (sp rfl (PE.add rfl rfl (by omega)) rfl (pur 1 rfl ?_)))
   exact Zb ⟨⟨(j+1,ds++[m]),by dsimp only;omega,by dsimp only;rw [List.length_append,List.length_singleton];omega,Z9z hds (by rw [hdl];exact hy) hm⟩,o201.cast (by simp [irows])⟩ (fun w h9=>by dsimp only;exact ((h9.del b200).del b31).sub)
   obtain ⟨ad,cd,he,hf⟩:=o.freeze
   rw [Z3A] at he
   rw [he]
   refine Sy.heap (fun w h9=>hf h9) ?_
   clear he hf
   refine Z8 (Za (Za (Zn (sqt 6 rfl (pur 1 rfl ?_)))))
   refine clV rfl Zds rfl rfl (Z6e ds ad cd (by omega) (Zbb hok hck hord hds) _ _) ?_
   refine pur 1 rfl ?_
   refine Zv 205 rfl ?_ ?_<;>intro g205
   refine Z4A rfl rfl rfl rfl ZiF rfl rfl (Z8F _ _) ?_
   refine pur 2 rfl (Z5 ?_)
   exact rtA rfl rfl rfl ⟨rfl,rfl,rfl⟩ (fun w h9=>(((h9.del bq).del b9).del bk).sub)
   exact absurd g205 (by simp)
end Ht
end Go.Proofs.YthijcgkicjljhaaGreat
